/- Plain words: the texts of rational numbers, as numbers. -/
import Derived.Test.YtjgcjjbnnlnilaaGreatDoorKe4
import Derived.IntWalk
import Derived.RangeFuncBox
import Derived.Scope
import Derived.Deep.RegionHeld3
import Derived.Deep.DeepCutAuto
import Derived.Deep.CutBlock
namespace Go.Proofs.YtjgcjjbnnlnilaaGreatDoor
open Go.RowKit
open Go.Lib (decDigits nDigits)

def noSl (l : List UInt8) : Prop := ∀ b ∈ l, b ≠ 47

theorem ix_none : ∀ {l : List UInt8}, noSl l → Lib.index l [47] = -1
  | [], _ => rfl
  | b :: l, h => by
    have h1 : b ≠ 47 := h b (List.mem_cons_self ..)
    have h2 := ix_none (l := l) (fun x hx => h x (List.mem_cons_of_mem _ hx))
    have h3 : ((47 : UInt8) == b) = false := by rw [beq_eq_false_iff_ne]; exact fun e => h1 e.symm
    simp [Lib.index, List.isPrefixOf, h2, h3]

theorem ix_at : ∀ {l r : List UInt8}, noSl l → Lib.index (l ++ 47 :: r) [47] = l.length
  | [], r, _ => by simp [Lib.index, List.isPrefixOf]
  | b :: l, r, h => by
    have h1 : b ≠ 47 := h b (List.mem_cons_self ..)
    have h2 := ix_at (l := l) (r := r) (fun x hx => h x (List.mem_cons_of_mem _ hx))
    have h3 : ((47 : UInt8) == b) = false := by rw [beq_eq_false_iff_ne]; exact fun e => h1 e.symm
    have h4 : ((l.length : Int) == -1) = false := by rw [beq_eq_false_iff_ne]; omega
    simp only [List.cons_append, Lib.index, List.isPrefixOf, h3, h2, h4, Bool.false_and]
    simp

theorem cut_none {l : List UInt8} (h : noSl l) : Lib.cut l [47] = (l, [], false) := by
  unfold Lib.cut
  rw [if_neg (by rw [ix_none h]; decide)]
theorem cut_at {l r : List UInt8} (h : noSl l) : Lib.cut (l ++ 47 :: r) [47] = (l, r, true) := by
  unfold Lib.cut
  rw [if_pos (by rw [ix_at h]; omega), ix_at h]
  simp [List.drop_append]

theorem sl_cases : ∀ s : List UInt8, noSl s ∨ ∃ A B, noSl A ∧ s = A ++ 47 :: B
  | [] => .inl (fun b h => by cases h)
  | b :: l => by
    by_cases hb : b = 47
    · exact .inr ⟨[], l, fun b h => (by cases h), by rw [hb]; rfl⟩
    · rcases sl_cases l with h | ⟨A, B, hA, e⟩
      · exact .inl (fun x hx => by
          rcases List.mem_cons.1 hx with rfl | hx
          · exact hb
          · exact h x hx)
      · exact .inr ⟨b :: A, B, fun x hx => (by
          rcases List.mem_cons.1 hx with rfl | hx
          · exact hb
          · exact hA x hx), by rw [e]; rfl⟩

theorem noSl_dig {l : List UInt8} (h : allDig l) : noSl l := fun b hb e => by
  have := isDig_iff.1 (h b hb)
  rw [e] at this
  simp at this

/-- The text of a sign, a numerator and a denominator. -/
def txB (m : Bool) (n d : Nat) : ByteArray := ⟨((if m = true then [45] else []) ++ (decDigits n ++ (if d = 1 then [] else 47 :: decDigits d))).toArray⟩
def txQ (q : Rat) : ByteArray := txB (decide (q.num < 0)) q.num.natAbs q.den

theorem ba_ext {a b : ByteArray} (h : a.data.toList = b.data.toList) : a = b := by
  apply ByteArray.ext
  exact Array.toList_inj.1 h

theorem txB_list (m : Bool) (n d : Nat) : (txB m n d).data.toList = (if m = true then [45] else []) ++ (decDigits n ++ (if d = 1 then [] else 47 :: decDigits d)) := by simp [txB]

theorem tx_head (m : Bool) (n : Nat) : noSl ((if m = true then [45] else []) ++ decDigits n) := by
  intro b hb
  rcases List.mem_append.1 hb with h | h
  · cases m <;> simp at h
    rw [h]; decide
  · exact noSl_dig (allDig_dec n) b h

theorem cut_tx (m : Bool) (n d : Nat) : Lib.cut (txB m n d).data.toList [47] = ((if m = true then [45] else []) ++ decDigits n, if d = 1 then [] else decDigits d, !decide (d = 1)) := by
  rw [txB_list, ← List.append_assoc]
  by_cases h : d = 1
  · rw [if_pos h, List.append_nil, cut_none (tx_head m n), if_pos h]
    simp [h]
  · rw [if_neg h, cut_at (tx_head m n), if_neg h]
    simp [h]

theorem cW_tx (m : Bool) (n d : Nat) : (cW (txB m n d)).data.toList = (if m = true then [45] else []) ++ decDigits n := by simp [cW, cut_tx]
theorem cB_tx (m : Bool) (n d : Nat) : (cB (txB m n d)).data.toList = if d = 1 then [] else decDigits d := by simp [cB, cut_tx]
theorem cS_tx (m : Bool) (n d : Nat) : cS (txB m n d) = !decide (d = 1) := by simp [cS, cut_tx]
theorem qD_tx (m : Bool) (n d : Nat) : qD (txB m n d) = numB d := by
  unfold qD
  rw [cS_tx]
  by_cases h : d = 1
  · rw [h]; rw [if_neg (by simp)]; unfold numB; rw [dec_one]
  · rw [if_pos (by simp [h])]
    apply ba_ext
    rw [cB_tx, if_neg h, numB_list]

theorem minus_dec (n : Nat) : List.isPrefixOf [(45 : UInt8)] (decDigits n) = false := by
  cases h : decDigits n with
  | nil => rfl
  | cons b l =>
    have := isDig_iff.1 (allDig_dec n b (by rw [h]; exact List.mem_cons_self ..))
    have h3 : ((45 : UInt8) == b) = false := by
      rw [beq_eq_false_iff_ne]
      rintro rfl
      simp at this
    simp [List.isPrefixOf, h3]

theorem iM_tx (m : Bool) (n d : Nat) : iM (cW (txB m n d)) = m := by
  unfold iM Lib.hasPrefix
  rw [cW_tx]
  cases m
  · simpa using minus_dec n
  · simp [List.isPrefixOf]
theorem iD_tx (m : Bool) (n d : Nat) : iD (cW (txB m n d)) = numB n := by
  apply ba_ext
  have h := iM_tx m n d
  unfold iM at h
  unfold iD Lib.trimPrefix
  rw [h, cW_tx, numB_list]
  cases m <;> simp

theorem bN_iD_tx (m : Bool) (n d : Nat) : bN (iD (cW (txB m n d))) = n := by rw [iD_tx, bN_num]
theorem bN_qD_tx (m : Bool) (n d : Nat) : bN (qD (txB m n d)) = d := by rw [qD_tx, bN_num]

theorem numB_ne {a b : Nat} (h : a ≠ b) : numB a ≠ numB b := fun e => h (by rw [← bN_num a, e, bN_num])
theorem numB_zero : numB 0 = ⟨#[48]⟩ := by unfold numB; rw [dec_zero]
theorem numB_one : numB 1 = ⟨#[49]⟩ := by unfold numB; rw [dec_one]
theorem fB_num (n : Nat) : fB (numB n) = true := by unfold fB; rw [numB_list]; exact formB_dec n

/-- The text of a reduced fraction is valid. -/
theorem qE_tx {m : Bool} {n d : Nat} (hg : Nat.gcd n d = 1) (hd : 0 < d) (hm : m = true → n ≠ 0) (h1 : nDigits n ≤ 4000) (h2 : nDigits d ≤ 4000) : qE (txB m n d) = 0 := by
  refine qE_ok ?_ ?_ ?_
  · unfold qB iB
    rw [iD_tx, iM_tx, cS_tx, fB_num]
    have e1 : (m && decide (numB n = ⟨#[48]⟩)) = false := by
      cases m
      · rfl
      · rw [← numB_zero]; simpa using numB_ne (hm rfl)
    rw [e1]
    by_cases h : d = 1
    · simp [h]
    · have e2 : cB (txB m n d) = numB d := by
        apply ba_ext
        rw [cB_tx, if_neg h, numB_list]
      have hn : n ≠ 0 := fun e => by rw [e, Nat.gcd_zero_left] at hg; exact h hg
      rw [e2, fB_num, ← numB_zero, ← numB_one]
      have q1 := numB_ne hn
      have q2 := numB_ne (show d ≠ 0 by omega)
      have q3 := numB_ne h
      simp [q1, q2, q3]
  · unfold qL
    rw [iD_tx, qD_tx, numB_size, numB_size]
    simp
    omega
  · unfold qG
    rw [bN_iD_tx, bN_qD_tx]
    simp [hg]

/-- The number of a text. -/
def vQ (s : ByteArray) : Rat := qmk (iM (cW s)) (bN (iD (cW s))) (bN (qD s))

theorem formZ {s : ByteArray} (h : fB s = true) (h0 : s ≠ ⟨#[48]⟩) : 0 < bN s := by
  rcases Nat.eq_zero_or_pos (bN s) with e | e
  · have := numB_of h
    rw [e, numB_zero] at this
    exact absurd this h0
  · exact e

/-- The parts of a valid text. -/
theorem valid {s : ByteArray} (h : qE s = 0) : Nat.gcd (bN (iD (cW s))) (bN (qD s)) = 1 ∧ 0 < bN (qD s) ∧ (iM (cW s) = true → bN (iD (cW s)) ≠ 0) ∧ nDigits (bN (iD (cW s))) ≤ 4000 ∧ nDigits (bN (qD s)) ≤ 4000 ∧ s = txB (iM (cW s)) (bN (iD (cW s))) (bN (qD s)) := by
  obtain ⟨h1, h2, h3⟩ := qE_zero h
  have hW := iB_form (qB_whole h1)
  have hD := qB_below h1
  have eW := numB_of hW
  have eD := numB_of hD
  have hm : iM (cW s) = true → bN (iD (cW s)) ≠ 0 := by
    intro hm e
    have h4 := qB_whole h1
    unfold iB at h4
    rw [e, numB_zero] at eW
    rw [hm, eW] at h4
    simp at h4
  unfold qL at h2
  simp only [Bool.or_eq_false_iff, decide_eq_false_iff_not] at h2
  have l1 : nDigits (bN (iD (cW s))) ≤ 4000 := by
    have := h2.1
    rw [eW, numB_size] at this
    rw [eW, bN_num] at *
    omega
  have l2 : nDigits (bN (qD s)) ≤ 4000 := by
    have := h2.2
    rw [eD, numB_size] at this
    rw [eD, bN_num] at *
    omega
  have es : (cW s).data.toList = (if iM (cW s) = true then [45] else []) ++ decDigits (bN (iD (cW s))) := by
    have e : (iD (cW s)).data.toList = decDigits (bN (iD (cW s))) := by rw [eW, bN_num, numB_list]
    rw [← e]
    unfold iD Lib.trimPrefix
    cases hm2 : Lib.hasPrefix (cW s).data.toList [45]
    · have : iM (cW s) = false := hm2
      rw [this]
      simp
    · have : iM (cW s) = true := hm2
      rw [this]
      have hp : List.isPrefixOf [45] (cW s).data.toList = true := hm2
      obtain ⟨t, ht⟩ := List.isPrefixOf_iff_prefix.1 hp
      rw [← ht]
      simp
  refine ⟨?_, ?_, hm, l1, l2, ?_⟩
  · unfold qG at h3
    cases hS : cS s
    · have : qD s = numB 1 := by unfold qD; rw [hS, numB_one]; rfl
      rw [this, bN_num, Nat.gcd_one_right]
    · rw [hS] at h3
      simpa using h3
  · cases hS : cS s
    · have : qD s = numB 1 := by unfold qD; rw [hS, numB_one]; rfl
      rw [this, bN_num]; omega
    · unfold qB at h1
      rw [hS] at h1
      simp only [Bool.and_eq_true, Bool.or_eq_true, Bool.not_true, Bool.false_eq_true, false_or, decide_eq_true_eq] at h1
      have : qD s = cB s := by unfold qD; rw [if_pos hS]
      rw [this]
      exact formZ h1.2.1.1.2 h1.2.1.2
  · apply ba_ext
    rw [txB_list]
    rcases sl_cases s.data.toList with h4 | ⟨A, B, hA, e⟩
    · have hc := cut_none h4
      have hS : cS s = false := by unfold cS; rw [hc]
      have hq : bN (qD s) = 1 := by
        have : qD s = numB 1 := by unfold qD; rw [hS, numB_one]; rfl
        rw [this, bN_num]
      rw [hq, if_pos rfl, List.append_nil]
      have e1 : (cW s).data.toList = s.data.toList := by unfold cW; rw [hc]
      rw [← es, e1]
    · have hc := cut_at (r := B) hA
      rw [← e] at hc
      have hS : cS s = true := by unfold cS; rw [hc]
      have hB : qD s = cB s := by unfold qD; rw [if_pos hS]
      have e1 : (cW s).data.toList = A := by unfold cW; rw [hc]
      have e2 : (cB s).data.toList = B := by unfold cB; rw [hc]
      have e3 : B = decDigits (bN (qD s)) := by rw [← e2, ← hB, eD, bN_num, numB_list]
      have hne : bN (qD s) ≠ 1 := by
        intro hb
        unfold qB at h1
        rw [hS] at h1
        simp only [Bool.and_eq_true, Bool.or_eq_true, Bool.not_true, Bool.false_eq_true, false_or, decide_eq_true_eq] at h1
        refine h1.2.2 ?_
        rw [← hB, eD, hb, numB_one]
      rw [if_neg hne, ← e3, e, ← List.append_assoc, ← es, e1]

theorem qmk_ok {m : Bool} {n d : Nat} (hg : Nat.gcd n d = 1) (hd : 0 < d) (hm : m = true → n ≠ 0) : decide ((qmk m n d).num < 0) = m ∧ (qmk m n d).num.natAbs = n ∧ (qmk m n d).den = d := by
  have e1 := qmk_num (m := m) (n := n) hd
  have e2 := qmk_den (m := m) (n := n) hd
  rw [hg, Nat.div_one] at e1 e2
  refine ⟨?_, by rw [e1, sgn_natAbs], e2⟩
  rw [e1]
  rcases Nat.eq_zero_or_pos n with rfl | hn
  · cases m
    · rw [sgn_zero]; rfl
    · exact absurd rfl (hm rfl)
  · exact sgn_neg hn

/-- A valid text is the text of its number. -/
theorem vQ_ok {s : ByteArray} (h : qE s = 0) : decide ((vQ s).num < 0) = iM (cW s) ∧ (vQ s).num.natAbs = bN (iD (cW s)) ∧ (vQ s).den = bN (qD s) := by
  obtain ⟨h1, h2, h3, -⟩ := valid h
  exact qmk_ok h1 h2 h3
theorem vQ_text {s : ByteArray} (h : qE s = 0) : s = txQ (vQ s) := by
  obtain ⟨e1, e2, e3⟩ := vQ_ok h
  unfold txQ
  rw [e1, e2, e3]
  exact (valid h).2.2.2.2.2

/-- Whether a number's text would be too long. -/
def ovQ (q : Rat) : Prop := 4000 < nDigits q.num.natAbs ∨ 4000 < nDigits q.den
instance (q : Rat) : Decidable (ovQ q) := by unfold ovQ; infer_instance

theorem vQ_fits {s : ByteArray} (h : qE s = 0) : ¬ ovQ (vQ s) := by
  obtain ⟨e1, e2, e3⟩ := vQ_ok h
  obtain ⟨-, -, -, l1, l2, -⟩ := valid h
  unfold ovQ
  rw [e2, e3]
  omega

theorem gcd_q (q : Rat) : Nat.gcd q.num.natAbs q.den = 1 := q.reduced
theorem neg_q (q : Rat) : decide (q.num < 0) = true → q.num.natAbs ≠ 0 := by
  intro h
  have := of_decide_eq_true h
  omega
theorem qE_txQ {q : Rat} (h : ¬ ovQ q) : qE (txQ q) = 0 := by
  unfold ovQ at h
  exact qE_tx (gcd_q q) q.den_pos (neg_q q) (by omega) (by omega)
theorem vQ_txQ (q : Rat) : vQ (txQ q) = q := by
  unfold vQ txQ
  rw [iM_tx, bN_iD_tx, bN_qD_tx, qmk_self]

/-- The text and the error of a result. -/
def outB (q : Rat) : ByteArray := if ovQ q then ⟨#[]⟩ else txQ q
def outE (q : Rat) : Int := if ovQ q then 5 else 0

/-- An operation on one text, on two. -/
def op1B (f : Rat → Rat) (s : ByteArray) : ByteArray := if qE s = 0 then outB (f (vQ s)) else ⟨#[]⟩
def op1E (f : Rat → Rat) (s : ByteArray) : Int := if qE s = 0 then outE (f (vQ s)) else qE s
def op2B (f : Rat → Rat → Rat) (s t : ByteArray) : ByteArray := if qE s = 0 ∧ qE t = 0 then outB (f (vQ s) (vQ t)) else ⟨#[]⟩
def op2E (f : Rat → Rat → Rat) (s t : ByteArray) : Int := if qE s = 0 then (if qE t = 0 then outE (f (vQ s) (vQ t)) else qE t) else qE s
end Go.Proofs.YtjgcjjbnnlnilaaGreatDoor

/- Walks: pick.draw, for any function that is handed over. -/
namespace Go.Proofs.YtjgcjjbnnlnilaaGreatDoor
open Go.RowKit Go.Shelf
open Go.Lib (decDigits nDigits)
set_option linter.unusedVariables false
set_option linter.unusedSimpArgs false

/-- A function that says whether a cell decides a value, in every later world. -/
def DecOk (F : Nat) (cs : Array Value) (f : Nat → Nat → Nat × Bool) (w : World) : Prop :=
  ∀ (W : World) (k u : Nat), Below w.heap.size w W → k < 2 ^ u → u ≤ 256 →
    Calls Tryz.prog F (#[.string (numB k), .string (numB (2 ^ u))] ++ cs) W fun e w' => e = .returned (.tuple #[.int .i64 ((f k (2 ^ u)).1 : Nat), .bool (f k (2 ^ u)).2]) ∧ Below W.heap.size W w'

/-- What the rounds of draw keep. -/
structure PdI (f : Nat → Nat → Nat × Bool) (L : List UInt8) (k u : Nat) : Prop where
  le : u ≤ L.length
  lt : k < 2 ^ u
  eq : pdAt f L k (2 ^ u) u = pdr f 0 1 L
theorem PdI.start (f : Nat → Nat → Nat × Bool) (L : List UInt8) : PdI f L 0 0 := ⟨Nat.zero_le _, by decide, pdAt_start f L⟩
theorem PdI.next {f : Nat → Nat → Nat × Bool} {L : List UInt8} {k u : Nat} (h : PdI f L k u) (hn : (f k (2 ^ u)).2 = false) (hu : u < L.length) : PdI f L (k + k + (if L[u] = 49 then 1 else 0)) (u + 1) := by
  refine ⟨hu, ?_, ?_⟩
  · have := h.lt
    rw [Nat.pow_succ]; split <;> omega
  · rw [← h.eq, pdAt_next hn hu, Nat.pow_succ, Nat.mul_two]
theorem PdI.done {f : Nat → Nat → Nat × Bool} {L : List UInt8} {k u : Nat} (h : PdI f L k u) (hn : (f k (2 ^ u)).2 = true) : pdr f 0 1 L = (true, (f k (2 ^ u)).1, u) := by
  rw [← h.eq, pdAt_done hn]
theorem PdI.late {f : Nat → Nat → Nat × Bool} {L : List UInt8} {k u : Nat} (h : PdI f L k u) (hn : (f k (2 ^ u)).2 = false) (hu : u = L.length) : pdr f 0 1 L = (false, 0, L.length) := by
  subst hu
  rw [← h.eq, pdAt_late hn]

def dw3 (x : Bool × Nat × Nat) : Value := .agg #[.bool x.1, .int .i64 (x.2.1 : Nat), .int .i64 (x.2.2 : Nat)]

theorem two_nd {u : Nat} (h : u ≤ 300) : nDigits (2 ^ u) ≤ 100 := by
  refine nDigits_le (by omega) (Nat.lt_of_le_of_lt (Nat.pow_le_pow_right (by omega) h) ?_)
  decide +kernel

set_option maxRecDepth 100000 in
set_option maxHeartbeats 2000000 in
theorem p_draw (w : World) (b : ByteArray) (F : Nat) (cs : Array Value) (f : Nat → Nat → Nat × Bool) (hb : b.size ≤ 256) (hen : ∀ args w, (callFunc F args).run Tryz.prog w = .ok (.enter F args) w) (hF : DecOk F cs f w) (hL : Lay w) :
    Calls Tryz.prog 41 #[.string b, .func (.func F) #[] cs] w fun e w' => e = .returned (dw3 (pdr f 0 1 b.data.toList)) ∧ Below w.heap.size w w' := by
  have HF := fun W k u hb h1 h2 => hid (hF W k u hb h1 h2)
  have hPl := fun W a b h1 h2 h3 hW => hid (pk_plus W a b h1 h2 h3 hW)
  obtain ⟨L, hLL⟩ : ∃ L, b.data.toList = L := ⟨_, rfl⟩
  have hlen := hid (show L.length = b.size from by rw [← hLL]; simp)
  have hget := hid (fun (i : Nat) (h : i < b.size) => show L[i]? = some b[i] from by rw [← hLL]; exact byte_get h)
  rw [hLL]
  have HL := hid hL; have HB := hid hb
  clear hF hL hLL
  have e0 : (⟨#[48]⟩ : ByteArray) = numB 0 := numB_zero.symm
  have e1 : (⟨#[49]⟩ : ByteArray) = numB 1 := numB_one.symm
  have x0 := hid (Blk.new w #[.bool false, .int .i64 0, .int .i64 0] 29)
  have b0 := hid ((Below.refl w.heap.size w).alloc (Nat.le_refl _) (.cells #[.bool false, .int .i64 0, .int .i64 0] 29))
  have E0 := hid e0; have E1 := hid e1
  clear e0 e1
  go_enter Tryz.func41, Tryz.ntmps41
  go_wp2_with fail
  go_loopw [5, 6, 7] (fun kk tt uu wr => ∃ k u : Nat, kk = .string (numB k) ∧ tt = .string (numB (2 ^ u)) ∧ uu = .int .i64 u ∧ u ≤ b.size ∧ Hid (PdI f L k u) ∧ Hid (Blk wr w.heap.size #[.bool false, .int .i64 0, .int .i64 0] 29) ∧ Hid (Below w.heap.size w wr)) (fun kk tt uu wr => b.size - (intOf uu).toNat)
  case atStart => exact ⟨0, 0, by rw [← E0.out], by rw [Nat.pow_zero, ← E1.out], rfl, Nat.zero_le _, PdI.start f L, x0, b0⟩
  case round =>
    obtain ⟨k, u, rfl, rfl, rfl, hu, hI, k0, hB⟩ := hrel
    have HD := HF wr k u hB.out hI.out.lt (by have := HB.out; omega)
    obtain ⟨vv, hvv⟩ : ∃ x, (f k (2 ^ u)).1 = x := ⟨_, rfl⟩
    obtain ⟨bb, hbb⟩ : ∃ x, (f k (2 ^ u)).2 = x := ⟨_, rfl⟩
    rw [hvv, hbb] at HD
    have HVV := hid hvv; have HBB := hid hbb
    have hk1 := nDigits_mono (Nat.le_of_lt hI.out.lt)
    have hk2 := two_nd (u := u) (by have := HB.out; omega)
    have hk3 := two_nd (u := u + 1) (by have := HB.out; omega)
    have P1 := hPl
    clear hvv hbb
    obtain ⟨K, hK⟩ : ∃ x, numB k = x := ⟨_, rfl⟩
    obtain ⟨T, hT⟩ : ∃ x, numB (2 ^ u) = x := ⟨_, rfl⟩
    have HK := hid hK; have HT := hid hT
    have ND := hid (And.intro hk1 (And.intro hk2 hk3))
    rw [hK, hT] at HD ⊢
    clear hK hT hk1 hk2 hk3 P1
    go_wp2_with fail
    refine HD.out.mono ?_; rintro e w1 ⟨rfl, hb1⟩
    have y1 := hid (bnext hB.out hb1); have k1 := hid (k0.out.call hb1)
    clear hb1
    cases bb
    · by_cases hlt : u = b.size
      · have q0 : ((u : Int) == (b.size : Int)) = true := by rw [hlt]; simp
        have LT := hid (hI.out.late HBB.out (by rw [hlen.out]; exact hlt))
        have r0 := k1.out.cell 0
        have r1 := k1.out.cell 1
        have r2 := k1.out.cell 2
        have f0 := k1.out.free 0
        have f1 := k1.out.free 1
        have f2 := k1.out.free 2
        simp at r0 r1 r2
        have hub := hid hlt
        clear hlt
        go_wp2_with fail
        have s3 := ((k1.out.set 0 (.bool false)).set 1 (.int .i64 0)).set 2 (.int .i64 (u : Nat))
        have z0 := s3.cell 0
        have z1 := s3.cell 1
        have z2 := s3.cell 2
        simp at z0 z1 z2
        refine bodyPost_ret (v := .agg #[.bool false, .int .i64 0, .int .i64 (u : Nat)]) (by simp [results, Tryz.results41, go_sem, z0, z1, z2]) rfl ⟨by rw [LT.out, hlen.out, hub.out]; rfl, ?_⟩
        exact ((y1.out.setCell (Nat.le_refl _) _).setCell (Nat.le_refl _) _).setCell (Nat.le_refl _) _
      · have q0 : ((u : Int) == (b.size : Int)) = false := by rw [beq_eq_false_iff_ne]; omega
        have hub : u < b.size := by omega
        have NX := hid (hI.out.next HBB.out (by rw [hlen.out]; exact hub))
        have hg := hget.out u hub
        have hgl : L[u]'(by rw [hlen.out]; exact hub) = b[u] := by
          have := List.getElem?_eq_getElem (l := L) (i := u) (by rw [hlen.out]; exact hub)
          rw [hg] at this
          exact (Option.some.inj this).symm
        have HN2 := hid (show 2 ^ u + 2 ^ u = 2 ^ (u + 1) from by rw [Nat.pow_succ]; omega)
        have klt := hid hI.out.lt
        rw [hgl] at NX
        have R1 := fun W hW => hPl W k k (by have := ND.out; omega) (by have := ND.out; omega) (by
          have h1 := nDigits_mono (show k + k ≤ 2 ^ (u + 1) by rw [← HN2.out]; have := klt.out; omega)
          have := ND.out; omega) hW
        have R2 := fun W hW => hPl W (2 ^ u) (2 ^ u) (by have := ND.out; omega) (by have := ND.out; omega) (by rw [HN2.out]; have := ND.out; omega) hW
        have R3 := fun W hW => hPl W (k + k) 1 (by
          have h1 := nDigits_mono (show k + k ≤ 2 ^ (u + 1) by rw [← HN2.out]; have := klt.out; omega)
          have := ND.out; omega) (by rw [nDigits_one]; omega) (by
          have h1 := nDigits_mono (show k + k + 1 ≤ 2 ^ (u + 1) by rw [← HN2.out]; have := klt.out; omega)
          have := ND.out; omega) hW
        rw [HK.out] at R1
        rw [HT.out, HN2.out] at R2
        rw [← E1.out] at R3
        clear hlt hg hgl
        by_cases h1 : b[u] = 49
        · have q1 : ((b[u].toNat : Int) == 49) = true := by rw [h1]; rfl
          rw [if_pos h1] at NX
          clear h1
          go_wp2_with fail
          refine (R1 _ (HL.out.call y1.out)).out.mono ?_; rintro e w2 ⟨rfl, hb2⟩
          have y2 := hid (bnext y1.out hb2); have k2 := hid (k1.out.call hb2)
          clear hb2
          go_wp2_with fail
          refine (R2 _ (HL.out.call y2.out)).out.mono ?_; rintro e w3 ⟨rfl, hb3⟩
          have y3 := hid (bnext y2.out hb3); have k3 := hid (k2.out.call hb3)
          clear hb3
          go_wp2_with fail
          refine (R3 _ (HL.out.call y3.out)).out.mono ?_; rintro e w4 ⟨rfl, hb4⟩
          have y4 := hid (bnext y3.out hb4); have k4 := hid (k3.out.call hb4)
          clear hb4
          go_wp2_with fail
          go_roundw
          case rel => exact ⟨_, u + 1, rfl, rfl, by go_num, by omega, NX, k4, y4⟩
          case measure => simp [intOf] <;> omega
        · have q1 : ((b[u].toNat : Int) == 49) = false := by
            rw [beq_eq_false_iff_ne]
            intro e
            refine h1 ?_
            have : b[u].toNat = (49 : UInt8).toNat := by simp; omega
            exact UInt8.toNat_inj.1 this
          rw [if_neg h1] at NX
          clear h1
          go_wp2_with fail
          refine (R1 _ (HL.out.call y1.out)).out.mono ?_; rintro e w2 ⟨rfl, hb2⟩
          have y2 := hid (bnext y1.out hb2); have k2 := hid (k1.out.call hb2)
          clear hb2
          go_wp2_with fail
          refine (R2 _ (HL.out.call y2.out)).out.mono ?_; rintro e w3 ⟨rfl, hb3⟩
          have y3 := hid (bnext y2.out hb3); have k3 := hid (k2.out.call hb3)
          clear hb3
          go_wp2_with fail
          go_roundw
          case rel => exact ⟨_, u + 1, rfl, rfl, by go_num, by omega, NX, k3, y3⟩
          case measure => simp [intOf] <;> omega
    · have DN := hid (hI.out.done HBB.out)
      rw [HVV.out] at DN
      have r0 := k1.out.cell 0
      have r1 := k1.out.cell 1
      have r2 := k1.out.cell 2
      have f0 := k1.out.free 0
      have f1 := k1.out.free 1
      have f2 := k1.out.free 2
      simp at r0 r1 r2
      go_wp2_with fail
      have s3 := ((k1.out.set 0 (.bool true)).set 1 (.int .i64 (vv : Nat))).set 2 (.int .i64 (u : Nat))
      have z0 := s3.cell 0
      have z1 := s3.cell 1
      have z2 := s3.cell 2
      simp at z0 z1 z2
      refine bodyPost_ret (v := .agg #[.bool true, .int .i64 (vv : Nat), .int .i64 (u : Nat)]) (by simp [results, Tryz.results41, go_sem, z0, z1, z2]) rfl ⟨by rw [DN.out]; rfl, ?_⟩
      exact ((y1.out.setCell (Nat.le_refl _) _).setCell (Nat.le_refl _) _).setCell (Nat.le_refl _) _
end Go.Proofs.YtjgcjjbnnlnilaaGreatDoor

/- Walks: pick.check. -/
namespace Go.Proofs.YtjgcjjbnnlnilaaGreatDoor
open Go.RowKit Go.Shelf
open Go.Lib (decDigits nDigits)
set_option linter.unusedVariables false
set_option linter.unusedSimpArgs false

/-- Whether a weight is not 0. -/
def nzB (b : ByteArray) : Bool := decide (b ≠ ⟨#[48]⟩)

theorem p_nz (w : World) (b : ByteArray) : Calls Tryz.prog 91 #[.string b] w fun e w' => e = .returned (.bool (nzB b)) ∧ w = w' := by
  by_cases h : b = ⟨#[48]⟩
  · subst h
    go_enter Tryz.func91, Tryz.ntmps91
    go_wp2_with fail
    go_ret
    exact ⟨rfl, rfl⟩
  · have i1 := ne_lit (l := [48]) h
    have hn := hid (show nzB b = true from by simp [nzB, h])
    rw [hn.out]
    clear h
    go_enter Tryz.func91, Tryz.ntmps91
    go_wp2_with fail
    go_ret
    exact ⟨rfl, rfl⟩

theorem Row.openS {w : World} {v : Value} {l : List ByteArray} (h : Row w v (strs l)) : ∃ a c, v = .slice a l.length c ∧ l.length ≤ c ∧ c ≤ 9223372036854775807 ∧ ∀ (i : Nat) (x : ByteArray), l[i]? = some x → ∃ g o, a = some ⟨g, o, none⟩ ∧ g < w.heap.size ∧ w.cell? ⟨g, o + i, none⟩ = some (.string x) := by
  obtain ⟨a, c, rfl, h1, h2, h3⟩ := h.ex
  rw [strs_length] at *
  exact ⟨a, c, rfl, h1, by unfold maxLen at h2; omega, fun i x hx => h3 i _ (strs_get hx)⟩

/-- What IndexFunc gives back. -/
def IdxOut (l : List ByteArray) (e : Ending) : Prop := ∃ z : Int, e = .returned (.int .i64 z) ∧ (0 ≤ z ↔ l.any nzB = true)

set_option maxRecDepth 100000 in
set_option maxHeartbeats 1000000 in
theorem p_index (w : World) (v : Value) (l : List ByteArray) (h : Row w v (strs l)) : Calls Tryz.prog 129 #[v, .func (.func 91) #[] #[]] w fun e w' =>
    IdxOut l e ∧ w = w' := by
  obtain ⟨a, c, rfl, h1, h2, h3⟩ := h.openS
  have e91 : ∀ args w, (callFunc 91 args).run Tryz.prog w = .ok (.enter 91 args) w := enters_of Tryz.func91 (by kernel_rfl) rfl
  obtain ⟨n, hn⟩ : ∃ n, l.length = n := ⟨_, rfl⟩
  rw [hn] at h1 ⊢
  have H3 := hid h3; have HN := hid hn
  clear h h3 hn
  go_enter Tryz.func129, Tryz.ntmps129
  go_wp2_with fail
  go_loop [8] (fun ii => ∃ i : Nat, ii = .int .i64 i ∧ i ≤ n ∧ Hid (∀ (j : Nat) (b : ByteArray), j < i → l[j]? = some b → nzB b = false)) (fun ii => n - (intOf ii).toNat)
  case atStart => exact ⟨0, rfl, Nat.zero_le _, fun j b hj => absurd hj (by omega)⟩
  case round =>
    obtain ⟨i, rfl, hi, hI⟩ := hrel
    by_cases hlt : i < n
    · obtain ⟨x, hx⟩ : ∃ x, l[i]? = some x := ⟨_, List.getElem?_eq_getElem (by rw [HN.out]; exact hlt)⟩
      obtain ⟨g, o, rfl, hg, hc⟩ := H3.out i x hx
      obtain ⟨z, hz⟩ : ∃ z, nzB x = z := ⟨_, rfl⟩
      have HX := hid hx; have HZ := hid hz
      have b1 : (0 : Int) ≤ (i : Int) := by omega
      have b2 : (i : Int) < (n : Int) := by omega
      have wi : IntKind.i64.wrap ((i : Int) + 1) = (i : Int) + 1 := by rw [IntWalk.i64_in _ ⟨by omega, by omega⟩]
      have PN := fun W => hid (p_nz W x)
      rw [hz] at PN
      clear hx hz
      go_wp2_with fail
      refine (PN _).out.mono ?_; rintro e w1 ⟨rfl, rfl⟩
      cases z
      · go_wp2_with fail
        go_round
        case rel => exact ⟨i + 1, rfl, by omega, fun j b hj hjb => by
          by_cases e : j = i
          · subst e; rw [HX.out] at hjb; cases hjb; exact HZ.out
          · exact hI.out j b (by omega) hjb⟩
        case measure => simp [intOf] <;> omega
      · go_wp2_with fail
        go_ret
        exact ⟨⟨i, rfl, ⟨fun _ => List.any_eq_true.2 ⟨x, List.mem_of_getElem? HX.out, HZ.out⟩, fun _ => by omega⟩⟩, rfl⟩
    · obtain rfl : i = n := by omega
      go_wp2_with fail
      go_ret
      refine ⟨⟨-1, rfl, ⟨fun h => absurd h (by decide), fun h => ?_⟩⟩, rfl⟩
      obtain ⟨x, hx, hz⟩ := List.any_eq_true.1 h
      obtain ⟨j, hj, rfl⟩ := List.getElem_of_mem hx
      have := hI.out j _ (by rw [← HN.out]; exact hj) (List.getElem?_eq_getElem hj)
      rw [this] at hz
      cases hz

set_option maxRecDepth 100000 in
set_option maxHeartbeats 1000000 in
theorem p_contains (w : World) (v : Value) (l : List ByteArray) (h : Row w v (strs l)) : Calls Tryz.prog 90 #[v, .func (.func 91) #[] #[]] w fun e w' =>
    e = .returned (.bool (l.any nzB)) ∧ w = w' := by
  have PI := hid (p_index w v l h)
  obtain ⟨a, c, rfl, -⟩ := h.openS
  obtain ⟨n, hn⟩ : ∃ n, l.length = n := ⟨_, rfl⟩
  rw [hn] at PI ⊢
  clear h hn
  obtain ⟨b, hb⟩ : ∃ b, l.any nzB = b := ⟨_, rfl⟩
  have HB := hid hb
  rw [hb]
  clear hb
  go_enter Tryz.func90, Tryz.ntmps90
  go_wp2_with fail
  refine PI.out.mono ?_; rintro e w1 ⟨⟨z, rfl, hz⟩, rfl⟩
  rw [HB.out] at hz
  have q : decide (0 ≤ z) = b := by
    rw [Bool.eq_iff_iff, decide_eq_true_iff]
    exact hz
  clear hz
  go_wp2_with fail
  go_ret
  first | exact ⟨by rw [q], rfl⟩ | exact ⟨rfl, rfl⟩

theorem wtE_at : ∀ {l : List ByteArray} {i : Nat}, (∀ (j : Nat) (b : ByteArray), j < i → l[j]? = some b → errN b.data.toList = 0 ∧ b.size ≤ 3800) → wtE l = wtE (l.drop i)
  | [], i, _ => by simp [wtE]
  | b :: r, 0, _ => rfl
  | b :: r, i + 1, h => by
    obtain ⟨h1, h2⟩ := h 0 b (by omega) rfl
    have h3 := wtE_at (l := r) (i := i) (fun j c hj hc => h (j + 1) c (by omega) (by simpa using hc))
    rw [wtE, if_neg (by simp [h1]), if_neg (by omega), h3]
    rfl

set_option maxRecDepth 100000 in
set_option maxHeartbeats 2000000 in
theorem p_check (w : World) (v : Value) (l : List ByteArray) (h : Row w v (strs l)) (hsz : ∀ b ∈ l, b.size ≤ 1000000) :
    Calls Tryz.prog 38 #[v] w fun e w' => e = .returned (.int .i64 (wsE l)) ∧ Below w.heap.size w w' := by
  have HR := hid h
  obtain ⟨a, c, rfl, h1, h2, h3⟩ := h.openS
  obtain ⟨n, hn⟩ : ∃ n, l.length = n := ⟨_, rfl⟩
  unfold wsE
  rw [hn] at h1 HR ⊢
  by_cases hlen : n = 0 ∨ 64 < n
  · rw [if_pos hlen]
    clear h HR h3 hn
    rcases hlen with h0 | h64
    · subst h0
      go_enter Tryz.func38, Tryz.ntmps38
      go_wp2_with fail
      go_ret
      exact ⟨rfl, Below.refl _ _⟩
    · have q0 : ((n : Int) == 0) = false := by rw [beq_eq_false_iff_ne]; omega
      have q1 : decide ((64 : Int) < (n : Int)) = true := by simp; omega
      clear h64
      go_enter Tryz.func38, Tryz.ntmps38
      go_wp2_with fail
      go_ret
      exact ⟨rfl, Below.refl _ _⟩
  · rw [if_neg hlen]
    have q0 : ((n : Int) == 0) = false := by rw [beq_eq_false_iff_ne]; omega
    have q1 : decide ((64 : Int) < (n : Int)) = false := by simp; omega
    have hn64 : n ≤ 64 := by omega
    have H3 := hid h3; have HN := hid hn; have HSZ := hid hsz
    obtain ⟨X, hX⟩ : ∃ X : Int, (if wtE l ≠ 0 then wtE l else if l.any nzB = true then 0 else 6) = X := ⟨_, rfl⟩
    have HX := hid hX
    have hXX : (if wtE l ≠ 0 then wtE l else if l.any (fun b => decide (b ≠ ⟨#[48]⟩)) = true then 0 else 6) = X := hX
    rw [hXX]
    clear h h3 hn hlen hX hXX hsz
    go_enter Tryz.func38, Tryz.ntmps38
    go_wp2_with fail
    clear q0 q1
    go_loopw [16] (fun ii wr => ∃ i : Nat, ii = .int .i64 i ∧ i ≤ n ∧ Hid (∀ (j : Nat) (b : ByteArray), j < i → l[j]? = some b → errN b.data.toList = 0 ∧ b.size ≤ 3800) ∧ Hid (Below w.heap.size w wr)) (fun ii wr => n - (intOf ii).toNat)
    case atStart => exact ⟨0, rfl, Nat.zero_le _, fun j b hj => absurd hj (by omega), Below.refl _ _⟩
    case round =>
      obtain ⟨i, rfl, hi, hI, hB⟩ := hrel
      by_cases hlt : i < n
      · obtain ⟨x, hx⟩ : ∃ x, l[i]? = some x := ⟨_, List.getElem?_eq_getElem (by rw [HN.out]; exact hlt)⟩
        obtain ⟨g, o, rfl, hg, hc⟩ := H3.out i x hx
        have d0 := (hB.out.cell (p := ⟨g, o + i, none⟩) hg).trans hc
        have b1 : (0 : Int) ≤ (i : Int) := by omega
        have b2 : (i : Int) < (n : Int) := by omega
        have wi : IntKind.i64.wrap ((i : Int) + 1) = (i : Int) + 1 := by rw [IntWalk.i64_in _ ⟨by omega, by omega⟩]
        have PN := fun W => hid (n_Check W x (Nat.le_trans (HSZ.out x (List.mem_of_getElem? hx)) (by omega)))
        obtain ⟨y, hy⟩ : ∃ y, errN x.data.toList = y := ⟨_, rfl⟩
        rw [hy] at PN
        have HXX := hid hx; have HY := hid hy
        have hdrop : l.drop i = x :: l.drop (i + 1) := by
          have hil : i < l.length := by rw [HN.out]; exact hlt
          rw [List.drop_eq_getElem_cons hil]
          have := List.getElem?_eq_getElem hil
          rw [hx] at this
          rw [Option.some.inj this]
        have HD := hid hdrop
        clear hx hy hc hdrop
        by_cases hy0 : y = 0
        · subst hy0
          by_cases hl : 3800 < x.size
          · have q2 : decide ((3800 : Int) < (x.size : Int)) = true := by simp; omega
            have HE : Hid (X = 5) := by
              show X = 5
              have : wtE l = 5 := by rw [wtE_at hI.out, HD.out, wtE, if_neg (by simp [HY.out]), if_pos hl]
              rw [← HX.out, this]
              rfl
            clear hl
            go_wp2_with fail
            refine (PN _).out.mono ?_; rintro e w1 ⟨rfl, hb1⟩
            have y1 := hid (bnext hB.out hb1); clear hb1
            go_wp2_with fail
            go_ret
            exact ⟨by rw [HE.out]; rfl, y1.out⟩
          · have q2 : decide ((3800 : Int) < (x.size : Int)) = false := by simp; omega
            have hl' := hid (show x.size ≤ 3800 from by omega)
            clear hl
            go_wp2_with fail
            refine (PN _).out.mono ?_; rintro e w1 ⟨rfl, hb1⟩
            have y1 := hid (bnext hB.out hb1); clear hb1
            go_wp2_with fail
            go_roundw
            case rel => exact ⟨i + 1, rfl, by omega, fun j b hj hjb => by
              by_cases e : j = i
              · subst e; rw [HXX.out] at hjb; cases hjb; exact ⟨HY.out, hl'.out⟩
              · exact hI.out j b (by omega) hjb, y1⟩
            case measure => simp [intOf] <;> omega
        · have q2 : (y != 0) = true := by simpa using hy0
          have HE : Hid (X = y) := by
            show X = y
            have : wtE l = y := by rw [wtE_at hI.out, HD.out, wtE, if_pos (by rw [HY.out]; exact hy0), HY.out]
            rw [← HX.out, this, if_pos hy0]
          clear hy0
          go_wp2_with fail
          refine (PN _).out.mono ?_; rintro e w1 ⟨rfl, hb1⟩
          have y1 := hid (bnext hB.out hb1); clear hb1
          go_wp2_with fail
          go_ret
          exact ⟨by rw [HE.out]; rfl, y1.out⟩
      · obtain rfl : i = n := by omega
        have hw : wtE l = 0 := by
          rw [wtE_at hI.out, ← HN.out, List.drop_length]
          rfl
        have PC := fun W (hW : Below w.heap.size w W) => hid (p_contains W _ l (HR.out.call hW))
        obtain ⟨z, hz⟩ : ∃ z, l.any nzB = z := ⟨_, rfl⟩
        have HE : Hid (X = if z = true then 0 else 6) := by
          show X = _
          rw [← HX.out, hw, hz]
          rfl
        simp only [hz] at PC
        clear hw hz
        go_wp2_with fail
        refine (PC _ hB.out).out.mono ?_; rintro e w1 ⟨rfl, rfl⟩
        cases z
        · go_wp2_with fail
          go_ret
          exact ⟨by rw [HE.out]; rfl, hB.out⟩
        · go_wp2_with fail
          go_ret
          exact ⟨by rw [HE.out]; rfl, hB.out⟩
end Go.Proofs.YtjgcjjbnnlnilaaGreatDoor

/- Walks: ref04.Bits, ref05.Check. -/
namespace Go.Proofs.YtjgcjjbnnlnilaaGreatDoor
open Go.RowKit Go.Shelf
open Go.Lib (decDigits nDigits)
set_option linter.unusedVariables false
set_option linter.unusedSimpArgs false

set_option maxRecDepth 100000 in
set_option maxHeartbeats 1000000 in
theorem r4_BitsP (w : World) (s : ByteArray) (hs : s.size ≤ 100000000) :
    Calls Tryz.prog 76 #[.string s] w fun e w' => e = .returned (.int .i64 (chkE s)) ∧ w = w' := by
  have HC := hid (r3_Check w s (by omega))
  by_cases hb : bitB s = true
  · have e0 : bitE s = 0 := if_pos hb
    rw [e0] at HC
    by_cases hl : 256 < s.size
    · have e1 : chkE s = 4 := by rw [chkE, if_pos hb, if_pos hl]
      have q0 : decide ((256 : Int) < (s.size : Int)) = true := by simp; omega
      rw [e1]
      clear hb hl e0 e1
      go_enter Tryz.func76, Tryz.ntmps76
      go_wp2_with fail
      refine HC.out.mono ?_; rintro e w1 ⟨rfl, rfl⟩
      go_wp2_with fail
      go_ret
      exact ⟨rfl, rfl⟩
    · have e1 : chkE s = 0 := by rw [chkE, if_pos hb, if_neg hl]
      have q0 : decide ((256 : Int) < (s.size : Int)) = false := by simp; omega
      rw [e1]
      clear hb hl e0 e1
      go_enter Tryz.func76, Tryz.ntmps76
      go_wp2_with fail
      refine HC.out.mono ?_; rintro e w1 ⟨rfl, rfl⟩
      go_wp2_with fail
      go_ret
      exact ⟨rfl, rfl⟩
  · have e0 : bitE s = 3 := if_neg hb
    have e1 : chkE s = 3 := if_neg hb
    rw [e0] at HC
    rw [e1]
    clear hb e0 e1
    go_enter Tryz.func76, Tryz.ntmps76
    go_wp2_with fail
    refine HC.out.mono ?_; rintro e w1 ⟨rfl, rfl⟩
    go_wp2_with fail
    go_ret
    exact ⟨rfl, rfl⟩

theorem wtE_cons {b : ByteArray} {r : List ByteArray} : (errN b.data.toList ≠ 0 → wtE (b :: r) = errN b.data.toList) ∧ (errN b.data.toList = 0 → 3800 < b.size → wtE (b :: r) = 5) ∧ (errN b.data.toList = 0 → ¬ 3800 < b.size → wtE (b :: r) = wtE r) :=
  ⟨fun h => by rw [wtE, if_pos h], fun h h2 => by rw [wtE, if_neg (by simpa using h), if_pos h2], fun h h2 => by rw [wtE, if_neg (by simpa using h), if_neg h2]⟩

set_option maxRecDepth 100000 in
set_option maxHeartbeats 2000000 in
theorem r5_Check (w : World) (v : Value) (l : List ByteArray) (hv : Row w v (strs l)) (hl : ∀ x ∈ l, x.size ≤ 1000000) :
    Calls Tryz.prog 75 #[v] w fun e w' => e = .returned (.int .i64 (wsE l)) ∧ w = w' := by
  have HV := hid hv
  obtain ⟨a, c, rfl, q1, q2, -⟩ := hv.openS
  obtain ⟨N, hN⟩ : ∃ N, l.length = N := ⟨_, rfl⟩
  have HN := hid hN; have HL := hid hl
  rw [hN] at HV q1 ⊢
  by_cases h0 : N = 0
  · subst h0
    have e : Hid (wsE l = 2) := by show wsE l = 2; rw [wsE, if_pos (.inl hN)]
    rw [e.out]
    clear hv hN hl e
    go_enter Tryz.func75, Tryz.ntmps75
    go_wp2_with fail
    go_ret
    exact ⟨rfl, rfl⟩
  · have t0 : ((N : Int) == 0) = false := by simp; omega
    by_cases h1 : 64 < N
    · have e : Hid (wsE l = 2) := by show wsE l = 2; rw [wsE, if_pos (.inr (by omega))]
      have t1 : decide ((64 : Int) < (N : Int)) = true := by simp; omega
      rw [e.out]
      clear hv hN hl e h0 h1
      go_enter Tryz.func75, Tryz.ntmps75
      go_wp2_with fail
      go_ret
      exact ⟨rfl, rfl⟩
    · have t1 : decide ((64 : Int) < (N : Int)) = false := by simp; omega
      have hE : Hid (wsE l = if wtE l ≠ 0 then wtE l else if l.any nzB = true then 0 else 6) := by show wsE l = _; rw [wsE, if_neg (by omega)]; rfl
      clear hv hN hl
      go_enter Tryz.func75, Tryz.ntmps75
      go_wp2_with fail
      go_loop [3, 4] (fun s3 s4 => ∃ i : Nat, s3 = .bool ((l.take i).any nzB) ∧ s4 = .int .i64 (i : Nat) ∧ i ≤ N ∧ Hid (wtE l = wtE (l.drop i))) (fun s3 s4 => N - (intOf s4).toNat)
      case atStart => exact ⟨0, rfl, rfl, Nat.zero_le _, rfl⟩
      case round =>
        obtain ⟨i, rfl, rfl, hi, hI⟩ := hrel
        by_cases hlt : i < N
        · obtain ⟨x, hx⟩ : ∃ x, l[i]? = some x := ⟨_, List.getElem?_eq_getElem (by rw [HN.out]; exact hlt)⟩
          have hxs := HL.out x (List.mem_of_getElem? hx)
          have PC := fun V => hid (r1_Check V x (by omega))
          obtain ⟨g, o, rfl, hg, hc⟩ := HV.out.at (strs_get hx)
          have hd : l.drop i = x :: l.drop (i + 1) := by
            obtain ⟨h, rfl⟩ := List.getElem?_eq_some_iff.1 hx
            exact List.drop_eq_getElem_cons h
          obtain ⟨c1, c2, c3⟩ := wtE_cons (b := x) (r := l.drop (i + 1))
          rw [← hd, ← hI.out] at c1 c2 c3
          have b1 : (0 : Int) ≤ (i : Int) := by omega
          have b2 : (i : Int) < (N : Int) := by omega
          have wi : IntKind.i64.wrap ((i : Int) + 1) = ((i + 1 : Nat) : Int) := by rw [IntWalk.i64_in _ ⟨by omega, by omega⟩]; omega
          by_cases he : errN x.data.toList = 0
          · rw [he] at PC
            by_cases h3 : 3800 < x.size
            · have t3 : decide ((3800 : Int) < (x.size : Int)) = true := by simp; omega
              have eE := hid (show wsE l = 5 by rw [hE.out, c2 he h3]; rfl)
              clear hx hxs hd c1 c2 c3 he h3 hg
              go_wp2_with fail
              refine (PC _).out.mono ?_; rintro e w1 ⟨rfl, rfl⟩
              go_wp2_with fail
              go_ret
              exact ⟨by rw [eE.out]; rfl, rfl⟩
            · have t3 : decide ((3800 : Int) < (x.size : Int)) = false := by simp; omega
              have hW := hid (c3 he h3)
              have hT : Hid (l.take (i + 1) = l.take i ++ [x]) := by show l.take (i + 1) = _; rw [List.take_add_one, hx]; rfl
              obtain ⟨so, hso⟩ : ∃ b, (l.take i).any nzB = b := ⟨_, rfl⟩
              have HSO := hid hso
              rw [hso]
              have hfin : Hid ((l.take (i + 1)).any nzB = (so || nzB x)) := by show _ = _; rw [hT.out, List.any_append, hso]; simp
              have tz : (!(x.toList == [48])) = nzB x := by
                unfold nzB
                by_cases h : x = ⟨#[48]⟩
                · subst h; rw [Lib.toList_data]; rfl
                · rw [ne_lit h, decide_eq_true h]; rfl
              obtain ⟨bz, hbz⟩ : ∃ b, nzB x = b := ⟨_, rfl⟩
              have tz2 : (x.toList == [48]) = !bz := by rw [← hbz, ← tz]; simp
              have HBZ := hid hbz
              clear hx hxs hd c1 c2 c3 he h3 hg hso hbz tz
              cases so
              all_goals
                cases bz
                all_goals
                  go_wp2_with fail
                  refine (PC _).out.mono ?_; rintro e w1 ⟨rfl, rfl⟩
                  go_wp2_with fail
                  go_round
                  case rel => exact ⟨i + 1, by rw [hfin.out, HBZ.out]; rfl, by go_num, by omega, hW⟩
                  case measure => simp [intOf] <;> omega
          · have eE := hid (show wsE l = errN x.data.toList by rw [hE.out, c1 he, if_pos he])
            obtain ⟨z, hz⟩ : ∃ z, errN x.data.toList = z := ⟨_, rfl⟩
            rw [hz] at PC he eE
            have q0 : (z != 0) = true := by simpa using he
            clear hx hxs hd c1 c2 c3 he hg hz
            go_wp2_with fail
            refine (PC _).out.mono ?_; rintro e w1 ⟨rfl, rfl⟩
            go_wp2_with fail
            go_ret
            exact ⟨by rw [eE.out]; rfl, rfl⟩
        · obtain rfl : i = N := by omega
          have q1 : decide ((i : Int) < (i : Int)) = false := by simp
          have hw : wtE l = 0 := by rw [hI.out, List.drop_of_length_le (by rw [HN.out]; exact Nat.le_refl _)]; rfl
          have ht : l.take i = l := List.take_of_length_le (by rw [HN.out]; exact Nat.le_refl _)
          rw [ht]
          obtain ⟨so, hso⟩ : ∃ b, l.any nzB = b := ⟨_, rfl⟩
          have eE := hid (show wsE l = if so = true then 0 else 6 by rw [hE.out, if_neg (by rw [hw]; simp), hso])
          rw [hso]
          clear hlt hw ht hso
          cases so
          all_goals
            go_wp2_with fail
            go_ret
            exact ⟨by rw [eE.out]; rfl, rfl⟩
end Go.Proofs.YtjgcjjbnnlnilaaGreatDoor

/- Walks: the reference's Plus, whose result is fresh. -/
namespace Go.Proofs.YtjgcjjbnnlnilaaGreatDoor
open Go.RowKit
set_option linter.unusedVariables false

/-- A call gives back a slice that holds n, in a block at or behind B. -/
def RetF (B : Nat) (k : IntKind) (n : Nat) (e : Ending) (w' : World) : Prop := ∃ v, e = .returned v ∧ IsN k w' v n ∧ ∀ g, v.ownBlock = some g → B ≤ g

set_option maxHeartbeats 4000000 in
theorem r1_PlusF (w : World) (v u : Value) (a b : Nat) (ha : IsN .i64 w v a) (hb : IsN .i64 w u b) (hla : (limbs a).length ≤ 1000000) (hlb : (limbs b).length ≤ 1000000) :
    Calls Tryz.prog 59 #[v, u] w fun e w' => RetF w.heap.size .i64 (a + b) e w' ∧ Below w.heap.size w w' := by
  obtain ⟨i0, hi, hz0, hz1, hz2⟩ := info_parts info_int
  obtain ⟨a1, c1, rfl, h1, h2, h3⟩ := ha.openI
  obtain ⟨a2, c2, rfl, k1, k2, k3⟩ := hb.openI
  have H3 := hid h3; have K3 := hid k3; clear h3 k3 ha hb
  obtain ⟨n, ea⟩ : ∃ n, (limbs a).length = n := ⟨_, rfl⟩
  obtain ⟨m, eb⟩ : ∃ m, (limbs b).length = m := ⟨_, rfl⟩
  rw [ea] at h1 hla ⊢
  rw [eb] at k1 hlb ⊢
  have HA := hid ea; have HB := hid eb
  clear ea eb
  go_enter Tryz.func59, Tryz.ntmps59
  go_wp2_with fail
  go_loopw [5, 6, 7] (fun o cc i wr => ∃ (s : List Nat) (c : Nat) (C : Int), i = .int .i64 s.length ∧ cc = .int .i64 C ∧ C = (c : Int) ∧ c ≤ 1 ∧ s.length ≤ 1000001 ∧ (s.length ≤ n ∨ s.length ≤ m ∨ c = 0) ∧ Hid (PlusI a b s c) ∧ Hid (wr.ownsRow w.heap.size 3 1 o s.length (ints .i64 s)) ∧ Hid (Below w.heap.size w wr))
    (fun _ _ i _ => 1000002 - (intOf i).toNat)
  case atStart => exact ⟨[], 0, 0, rfl, rfl, rfl, by omega, by simp, .inl (by simp), PlusI.start a b, World.ownsRow_nil _ _ _ _, Below.refl _ _⟩
  case round =>
    obtain ⟨s, c, C, rfl, rfl, hC, hc1, hs1, hs2, hP, hO, hB⟩ := hrel
    obtain ⟨ao, co, rfl⟩ := owns_ex hO.out
    by_cases hA : s.length < n
    · obtain ⟨x, hx⟩ : ∃ x, (limbs a)[s.length]? = some x := ⟨_, List.getElem?_eq_getElem (by rw [HA.out]; exact hA)⟩
      obtain ⟨g, og, rfl, hg, hc⟩ := H3.out _ x hx
      have hc' := (hB.out.cell (p := ⟨g, og + s.length, none⟩) hg).trans hc
      have hxl := (sm_limbs a).get hx
      have HX := hid hx; clear hx hc
      by_cases hB' : s.length < m
      · obtain ⟨y, hy⟩ : ∃ y, (limbs b)[s.length]? = some y := ⟨_, List.getElem?_eq_getElem (by rw [HB.out]; exact hB')⟩
        obtain ⟨g', og', rfl, hg', hd⟩ := K3.out _ y hy
        have hd' := (hB.out.cell (p := ⟨g', og' + s.length, none⟩) hg').trans hd
        have hyl := (sm_limbs b).get hy
        have HY := hid hy; clear hy hd
        rcases (show c = 0 ∨ c = 1 by omega) with rfl | rfl
        · obtain rfl : C = 0 := by omega
          clear hC
          have HN := hid (hP.out.next (by rw [HA.out]; exact .inl hA))
          rw [getD_of HX.out, getD_of HY.out] at HN
          go_wp2_with (at_builtin; refine wpList_append_own _ rfl _ _ 77 rfl w.heap.size 3 i0 (.int .i64 0) 1 8 Tryz.underlying77 hi hz0 hz1 hz2 rfl (by decide) _ s.length _ rfl (hO.out.alloc _) ⟨wr.heap.size, 0, none⟩ 1 1 [.int .i64 ((↑x + ↑y : Int) % 1000000000)] rfl rfl (cell_one_new wr (.int .i64 ((↑x + ↑y : Int) % 1000000000)) 3) (by simp [Value.oneCell']) (by unfold maxLen; omega) (by omega) (by have := hB.out.size; simp; omega) ?_; intro v' w3 hown3 hgrow3 _; have HO3 := hid hown3; have HG3 := hid hgrow3; clear hown3 hgrow3)
          have hz : ((↑x + ↑y : Int) % 1000000000) = (((x + 0 + y) % 1000000000 : Nat) : Int) := by omega
          rw [hz] at HO3
          obtain ⟨n1, n2⟩ := own_next hO.out hB.out HO3.out HG3.out
          have N1 := hid n1; have N2 := hid n2; clear n1 n2 hz HO3 HG3
          obtain ⟨a3, k3, rfl⟩ := owns_ex N1.out
          go_wp2_with fail
          go_roundw
          case rel => exact ⟨s ++ [(x + 0 + y) % 1000000000], (x + 0 + y) / 1000000000, _, by simp, rfl, by omega, HN.out.c1, by simp <;> omega, by simp <;> omega, HN, N1, N2⟩
          case measure => simp [intOf] <;> omega
        · obtain rfl : C = 1 := by omega
          clear hC
          have HN := hid (hP.out.next (by rw [HA.out]; exact .inl hA))
          rw [getD_of HX.out, getD_of HY.out] at HN
          go_wp2_with (at_builtin; refine wpList_append_own _ rfl _ _ 77 rfl w.heap.size 3 i0 (.int .i64 0) 1 8 Tryz.underlying77 hi hz0 hz1 hz2 rfl (by decide) _ s.length _ rfl (hO.out.alloc _) ⟨wr.heap.size, 0, none⟩ 1 1 [.int .i64 ((1 + ↑x + ↑y : Int) % 1000000000)] rfl rfl (cell_one_new wr (.int .i64 ((1 + ↑x + ↑y : Int) % 1000000000)) 3) (by simp [Value.oneCell']) (by unfold maxLen; omega) (by omega) (by have := hB.out.size; simp; omega) ?_; intro v' w3 hown3 hgrow3 _; have HO3 := hid hown3; have HG3 := hid hgrow3; clear hown3 hgrow3)
          have hz : ((1 + ↑x + ↑y : Int) % 1000000000) = (((x + 1 + y) % 1000000000 : Nat) : Int) := by omega
          rw [hz] at HO3
          obtain ⟨n1, n2⟩ := own_next hO.out hB.out HO3.out HG3.out
          have N1 := hid n1; have N2 := hid n2; clear n1 n2 hz HO3 HG3
          obtain ⟨a3, k3, rfl⟩ := owns_ex N1.out
          go_wp2_with fail
          go_roundw
          case rel => exact ⟨s ++ [(x + 1 + y) % 1000000000], (x + 1 + y) / 1000000000, _, by simp, rfl, by omega, HN.out.c1, by simp <;> omega, by simp <;> omega, HN, N1, N2⟩
          case measure => simp [intOf] <;> omega
      · skip
        rcases (show c = 0 ∨ c = 1 by omega) with rfl | rfl
        · obtain rfl : C = 0 := by omega
          clear hC
          have HN := hid (hP.out.next (by rw [HA.out]; exact .inl hA))
          rw [getD_of HX.out, getD_none (by rw [HB.out]; omega)] at HN
          go_wp2_with (at_builtin; refine wpList_append_own _ rfl _ _ 77 rfl w.heap.size 3 i0 (.int .i64 0) 1 8 Tryz.underlying77 hi hz0 hz1 hz2 rfl (by decide) _ s.length _ rfl (hO.out.alloc _) ⟨wr.heap.size, 0, none⟩ 1 1 [.int .i64 ((↑x : Int) % 1000000000)] rfl rfl (cell_one_new wr (.int .i64 ((↑x : Int) % 1000000000)) 3) (by simp [Value.oneCell']) (by unfold maxLen; omega) (by omega) (by have := hB.out.size; simp; omega) ?_; intro v' w3 hown3 hgrow3 _; have HO3 := hid hown3; have HG3 := hid hgrow3; clear hown3 hgrow3)
          have hz : ((↑x : Int) % 1000000000) = (((x + 0 + 0) % 1000000000 : Nat) : Int) := by omega
          rw [hz] at HO3
          obtain ⟨n1, n2⟩ := own_next hO.out hB.out HO3.out HG3.out
          have N1 := hid n1; have N2 := hid n2; clear n1 n2 hz HO3 HG3
          obtain ⟨a3, k3, rfl⟩ := owns_ex N1.out
          go_wp2_with fail
          go_roundw
          case rel => exact ⟨s ++ [(x + 0 + 0) % 1000000000], (x + 0 + 0) / 1000000000, _, by simp, rfl, by omega, HN.out.c1, by simp <;> omega, by simp <;> omega, HN, N1, N2⟩
          case measure => simp [intOf] <;> omega
        · obtain rfl : C = 1 := by omega
          clear hC
          have HN := hid (hP.out.next (by rw [HA.out]; exact .inl hA))
          rw [getD_of HX.out, getD_none (by rw [HB.out]; omega)] at HN
          go_wp2_with (at_builtin; refine wpList_append_own _ rfl _ _ 77 rfl w.heap.size 3 i0 (.int .i64 0) 1 8 Tryz.underlying77 hi hz0 hz1 hz2 rfl (by decide) _ s.length _ rfl (hO.out.alloc _) ⟨wr.heap.size, 0, none⟩ 1 1 [.int .i64 ((1 + ↑x : Int) % 1000000000)] rfl rfl (cell_one_new wr (.int .i64 ((1 + ↑x : Int) % 1000000000)) 3) (by simp [Value.oneCell']) (by unfold maxLen; omega) (by omega) (by have := hB.out.size; simp; omega) ?_; intro v' w3 hown3 hgrow3 _; have HO3 := hid hown3; have HG3 := hid hgrow3; clear hown3 hgrow3)
          have hz : ((1 + ↑x : Int) % 1000000000) = (((x + 1 + 0) % 1000000000 : Nat) : Int) := by omega
          rw [hz] at HO3
          obtain ⟨n1, n2⟩ := own_next hO.out hB.out HO3.out HG3.out
          have N1 := hid n1; have N2 := hid n2; clear n1 n2 hz HO3 HG3
          obtain ⟨a3, k3, rfl⟩ := owns_ex N1.out
          go_wp2_with fail
          go_roundw
          case rel => exact ⟨s ++ [(x + 1 + 0) % 1000000000], (x + 1 + 0) / 1000000000, _, by simp, rfl, by omega, HN.out.c1, by simp <;> omega, by simp <;> omega, HN, N1, N2⟩
          case measure => simp [intOf] <;> omega
    · skip
      by_cases hB' : s.length < m
      · obtain ⟨y, hy⟩ : ∃ y, (limbs b)[s.length]? = some y := ⟨_, List.getElem?_eq_getElem (by rw [HB.out]; exact hB')⟩
        obtain ⟨g', og', rfl, hg', hd⟩ := K3.out _ y hy
        have hd' := (hB.out.cell (p := ⟨g', og' + s.length, none⟩) hg').trans hd
        have hyl := (sm_limbs b).get hy
        have HY := hid hy; clear hy hd
        rcases (show c = 0 ∨ c = 1 by omega) with rfl | rfl
        · obtain rfl : C = 0 := by omega
          clear hC
          have HN := hid (hP.out.next (by rw [HB.out]; exact .inr (.inl hB')))
          rw [getD_none (by rw [HA.out]; omega), getD_of HY.out] at HN
          go_wp2_with (at_builtin; refine wpList_append_own _ rfl _ _ 77 rfl w.heap.size 3 i0 (.int .i64 0) 1 8 Tryz.underlying77 hi hz0 hz1 hz2 rfl (by decide) _ s.length _ rfl (hO.out.alloc _) ⟨wr.heap.size, 0, none⟩ 1 1 [.int .i64 ((↑y : Int) % 1000000000)] rfl rfl (cell_one_new wr (.int .i64 ((↑y : Int) % 1000000000)) 3) (by simp [Value.oneCell']) (by unfold maxLen; omega) (by omega) (by have := hB.out.size; simp; omega) ?_; intro v' w3 hown3 hgrow3 _; have HO3 := hid hown3; have HG3 := hid hgrow3; clear hown3 hgrow3)
          have hz : ((↑y : Int) % 1000000000) = (((0 + 0 + y) % 1000000000 : Nat) : Int) := by omega
          rw [hz] at HO3
          obtain ⟨n1, n2⟩ := own_next hO.out hB.out HO3.out HG3.out
          have N1 := hid n1; have N2 := hid n2; clear n1 n2 hz HO3 HG3
          obtain ⟨a3, k3, rfl⟩ := owns_ex N1.out
          go_wp2_with fail
          go_roundw
          case rel => exact ⟨s ++ [(0 + 0 + y) % 1000000000], (0 + 0 + y) / 1000000000, _, by simp, rfl, by omega, HN.out.c1, by simp <;> omega, by simp <;> omega, HN, N1, N2⟩
          case measure => simp [intOf] <;> omega
        · obtain rfl : C = 1 := by omega
          clear hC
          have HN := hid (hP.out.next (by rw [HB.out]; exact .inr (.inl hB')))
          rw [getD_none (by rw [HA.out]; omega), getD_of HY.out] at HN
          go_wp2_with (at_builtin; refine wpList_append_own _ rfl _ _ 77 rfl w.heap.size 3 i0 (.int .i64 0) 1 8 Tryz.underlying77 hi hz0 hz1 hz2 rfl (by decide) _ s.length _ rfl (hO.out.alloc _) ⟨wr.heap.size, 0, none⟩ 1 1 [.int .i64 ((1 + ↑y : Int) % 1000000000)] rfl rfl (cell_one_new wr (.int .i64 ((1 + ↑y : Int) % 1000000000)) 3) (by simp [Value.oneCell']) (by unfold maxLen; omega) (by omega) (by have := hB.out.size; simp; omega) ?_; intro v' w3 hown3 hgrow3 _; have HO3 := hid hown3; have HG3 := hid hgrow3; clear hown3 hgrow3)
          have hz : ((1 + ↑y : Int) % 1000000000) = (((0 + 1 + y) % 1000000000 : Nat) : Int) := by omega
          rw [hz] at HO3
          obtain ⟨n1, n2⟩ := own_next hO.out hB.out HO3.out HG3.out
          have N1 := hid n1; have N2 := hid n2; clear n1 n2 hz HO3 HG3
          obtain ⟨a3, k3, rfl⟩ := owns_ex N1.out
          go_wp2_with fail
          go_roundw
          case rel => exact ⟨s ++ [(0 + 1 + y) % 1000000000], (0 + 1 + y) / 1000000000, _, by simp, rfl, by omega, HN.out.c1, by simp <;> omega, by simp <;> omega, HN, N1, N2⟩
          case measure => simp [intOf] <;> omega
      · skip
        rcases (show c = 0 ∨ c = 1 by omega) with rfl | rfl
        · obtain rfl : C = 0 := by omega
          clear hC
          have hs := hid (hP.out.done (by rw [HA.out]; exact hA) (by rw [HB.out]; exact hB') rfl)
          go_wp2_with fail
          go_ret
          exact ⟨⟨_, rfl, owns_isN hO.out hs.out, fun g hg => (hO.out.lt g hg).1⟩, hB.out⟩
        · obtain rfl : C = 1 := by omega
          clear hC
          have HN := hid (hP.out.next (by exact .inr (.inr (by omega))))
          rw [getD_none (by rw [HA.out]; omega), getD_none (by rw [HB.out]; omega)] at HN
          go_wp2_with (at_builtin; refine wpList_append_own _ rfl _ _ 77 rfl w.heap.size 3 i0 (.int .i64 0) 1 8 Tryz.underlying77 hi hz0 hz1 hz2 rfl (by decide) _ s.length _ rfl (hO.out.alloc _) ⟨wr.heap.size, 0, none⟩ 1 1 [.int .i64 (1)] rfl rfl (cell_one_new wr (.int .i64 (1)) 3) (by simp [Value.oneCell']) (by unfold maxLen; omega) (by omega) (by have := hB.out.size; simp; omega) ?_; intro v' w3 hown3 hgrow3 _; have HO3 := hid hown3; have HG3 := hid hgrow3; clear hown3 hgrow3)
          have hz : (1) = (((0 + 1 + 0) % 1000000000 : Nat) : Int) := by omega
          rw [hz] at HO3
          obtain ⟨n1, n2⟩ := own_next hO.out hB.out HO3.out HG3.out
          have N1 := hid n1; have N2 := hid n2; clear n1 n2 hz HO3 HG3
          obtain ⟨a3, k3, rfl⟩ := owns_ex N1.out
          go_wp2_with fail
          go_roundw
          case rel => exact ⟨s ++ [(0 + 1 + 0) % 1000000000], (0 + 1 + 0) / 1000000000, _, by simp, rfl, by omega, HN.out.c1, by simp <;> omega, by simp <;> omega, HN, N1, N2⟩
          case measure => simp [intOf] <;> omega
end Go.Proofs.YtjgcjjbnnlnilaaGreatDoor

/- Walks: pick.scan's iterator. -/
namespace Go.Proofs.YtjgcjjbnnlnilaaGreatDoor
open Go.RowKit Go.Shelf
open Go.Lib (decDigits nDigits)
set_option linter.unusedVariables false
set_option linter.unusedSimpArgs false
attribute [local go_sem] Oper.semAt_some

/-- What scan hands over: the sum of the weights before, the weight. -/
def scOk (ws : List Nat) (p : List (ByteArray × ByteArray)) (x : ByteArray × ByteArray) : Prop := p.length < ws.length ∧ x.1 = numB (pre ws p.length) ∧ ∃ c, ws[p.length]? = some c ∧ x.2 = numB c

/-- Weights whose sums can be computed with. -/
structure WsOk (ws : List Nat) : Prop where
  len : ws.length ≤ 64
  dig : ∀ x ∈ ws, nDigits x ≤ 3800
theorem WsOk.sum {ws : List Nat} (h : WsOk ws) : nDigits ws.sum ≤ 3802 := nd_sum h.dig (by have := h.len; omega)
theorem WsOk.pre {ws : List Nat} (h : WsOk ws) (i : Nat) : nDigits (pre ws i) ≤ 3802 := nd_pre i h.sum

set_option maxRecDepth 100000 in
set_option maxHeartbeats 2000000 in
theorem scan_feeds {Kp : World → World → Prop} (n : Nat) (hn : 1 ≤ n) (w : World) (bb : Nat) (v : Value) (ws : List Nat) (hws : WsOk ws) (hKr : ∀ W, Kp W W) (hKt : ∀ {A B C : World}, Kp A B → Kp B C → Kp A C)
    (hread : ∀ W1 W2, Below w.heap.size w W1 → Kp W1 W2 → W2.cell? ⟨bb, 0, none⟩ = some v ∧ Row W2 v (strs (ws.map numB)) ∧ Lay W2) (hKb : ∀ W1 W2, Below W1.heap.size W1 W2 → Kp W1 W2) :
    Feeds n Tryz.prog 131 #[.pointer (some ⟨bb, 0, none⟩)] (fun x : ByteArray × ByteArray => #[.string x.1, .string x.2]) Kp (scOk ws) (fun xs => xs.length = ws.length) (fun _ => True) w := by
  intro l J Jx W hW hJ hJx hY h0
  have HR := hid hread; have HY := hid hY; have HW := hid hW; have HJ := hid hJ; have HJx := hid hJx
  have HKr := hid hKr; have HKt : Hid (∀ A B C : World, Kp A B → Kp B C → Kp A C) := fun A B C h k => hKt h k
  have HKb := hid hKb
  have HWS := hid hws
  have e0 : (⟨#[48]⟩ : ByteArray) = numB 0 := numB_zero.symm
  have E0 := hid e0
  obtain ⟨c0, r0, -⟩ := hread W W hW (hKr W)
  obtain ⟨a, c, rfl, q1, q2, -⟩ := r0.openS
  obtain ⟨N, hN⟩ : ∃ N, (ws.map numB).length = N := ⟨_, rfl⟩
  have HN := hid (show ws.length = N from by rw [← hN]; simp)
  rw [hN] at HR c0 q1
  clear hread hY hW hJ hJx hKr hKt hKb hws r0 hN e0
  refine callsIn_of_wp Tryz.func131 rfl trivial ?_ rfl
  simp only [Tryz.ntmps131, List.size_toArray, List.length_cons, List.length_nil, Nat.reduceAdd, Nat.reduceSub, Array.replicate_succ, Array.replicate_zero, List.push_toArray, List.append_toArray, List.nil_append, List.cons_append]
  gi_wp2
  gi_loopw [3, 8] (fun s ii wr => ∃ p : List (ByteArray × ByteArray), s = .string (numB (pre ws p.length)) ∧ ii = .int .i64 (p.length : Nat) ∧ p.length ≤ N ∧ Hid (J p wr) ∧ Hid (Kp W wr)) (fun s ii wr => N - (intOf ii).toNat)
  case atStart => exact ⟨[], by rw [List.length_nil, pre_zero, ← E0.out], rfl, Nat.zero_le _, h0, HKr.out W⟩
  case round =>
    obtain ⟨p, rfl, rfl, hp, hJ, hK⟩ := hrel
    obtain ⟨i, hi⟩ : ∃ i, p.length = i := ⟨_, rfl⟩
    have HI := hid hi
    rw [hi] at hp ⊢
    clear hi
    by_cases hlt : i < N
    · obtain ⟨x, hx⟩ : ∃ x, ws[i]? = some x := ⟨_, List.getElem?_eq_getElem (by rw [HN.out]; exact hlt)⟩
      obtain ⟨-, hrow, hLay⟩ := HR.out W wr HW.out hK.out
      obtain ⟨a', c', e, -, -, hcell⟩ := hrow.openS
      simp only [Value.slice.injEq] at e
      obtain ⟨rfl, -, rfl⟩ := e
      obtain ⟨g, o, rfl, hg, hc⟩ := hcell i (numB x) (by simp [hx])
      have HX := hid hx; have HLay := hid hLay
      have b1 : (0 : Int) ≤ (i : Int) := by omega
      have b2 : (i : Int) < (N : Int) := by omega
      have wi : IntKind.i64.wrap ((i : Int) + 1) = (i : Int) + 1 := by rw [IntWalk.i64_in _ ⟨by omega, by omega⟩]
      have n1 := HWS.out.pre i
      have n2 := HWS.out.pre (i + 1)
      have n3 := HWS.out.dig x (List.mem_of_getElem? hx)
      rw [pre_succ hx] at n2
      have PL := fun V hV => hid (pk_plus V (pre ws i) x (by omega) (by omega) (by omega) hV)
      rw [← pre_succ hx] at PL
      obtain ⟨S0, hS0⟩ : ∃ s, numB (pre ws i) = s := ⟨_, rfl⟩
      obtain ⟨X0, hX0⟩ : ∃ s, numB x = s := ⟨_, rfl⟩
      have HS0 := hid hS0; have HX0 := hid hX0
      rw [hX0] at hc
      rw [hS0, hX0] at PL
      rw [hS0]
      clear hx hrow hLay hcell n1 n2 n3 hS0 hX0
      obtain ⟨fn, tmps, assign, body, hy, hRR⟩ := HY.out p (S0, X0) wr ⟨by rw [HI.out, HN.out]; exact hlt, by rw [HI.out, HS0.out], x, by rw [HI.out]; exact HX.out, HX0.out.symm⟩ hJ.out
      dsimp only at hy
      have HYR := hid hRR
      clear hRR
      gi_wp2_with fail
      refine HYR.out.mono ?_
      rintro e W3 (⟨rfl, hJ3, hk3⟩ | ⟨rfl, hJx3⟩)
      · have HJ3 := hid hJ3; have HK3 := hid (HKt.out _ _ _ hK.out hk3)
        have hLay3 := (HR.out W W3 HW.out HK3.out).2.2
        have HLay3 := hid hLay3
        clear hJ3 hk3 hLay3 hy
        gi_wp2_with (refine ⟨trivial, ?_⟩; gi_at_call 47; refine (callsIn_wide.2 (PL _ HLay3.out).out).mono ?_; rintro e W4 ⟨rfl, hb4⟩)
        have HJ4 : Hid (J (p ++ [(S0, X0)]) W4) := HJ.out _ W3 W4 none HJ3.out ⟨hb4.os, hb4.tape, hb4.output, hb4.size, fun k hk _ => hb4.block k hk⟩ (fun r e => by cases e)
        have HK4 := hid (HKt.out _ _ _ HK3.out (HKb.out _ _ hb4))
        clear hb4
        gi_wp2_with fail
        go_roundw
        case rel => exact ⟨p ++ [(S0, X0)], by rw [List.length_append, List.length_singleton, HI.out], by rw [List.length_append, List.length_singleton, HI.out]; rfl, by rw [List.length_append, List.length_singleton, HI.out]; omega, HJ4, HK4⟩
        case measure => simp [intOf] <;> omega
      · clear hy
        gi_wp2_with fail
        refine bodyPost_ret (results_none rfl _ _ _) rfl ?_
        exact ⟨⟨_, rfl⟩, .inr ⟨_, trivial, hJx3⟩⟩
    · obtain rfl : i = N := by omega
      gi_wp2_with fail
      refine bodyPost_end (results_none rfl _ _ _) rfl ?_
      exact ⟨⟨_, rfl⟩, .inl ⟨p, by rw [HI.out, HN.out], hJ.out⟩⟩
end Go.Proofs.YtjgcjjbnnlnilaaGreatDoor

/- Walks: the reference's digits. -/
namespace Go.Proofs.YtjgcjjbnnlnilaaGreatDoor
open Go.RowKit
set_option linter.unusedVariables false

theorem r2_digits (w : World) (s : ByteArray) (hs : s.size ≤ 9223372036854775807) : Calls Tryz.prog 118 #[.string s] w fun e w' =>
    e = .returned (.bool (formB s.data.toList)) ∧ w = w' := by
  by_cases hf : formB s.data.toList = true
  · by_cases hl : 4000 < s.data.toList.length
    · have H5 := hid (show errN s.data.toList = 5 from by rw [errN, if_pos hf, if_pos hl])
      have HF := hid hf
      rw [hf]
      clear hf hl
      go_enter Tryz.func118, Tryz.ntmps118
      go_wp2_with fail
      refine (r1_Check _ s hs).mono ?_; rintro e w1 ⟨rfl, rfl⟩
      rw [H5.out]
      go_wp2_with fail
      go_ret
      exact ⟨rfl, rfl⟩
    · have H5 := hid (show errN s.data.toList = 0 from by rw [errN, if_pos hf, if_neg hl])
      have HF := hid hf
      rw [hf]
      clear hf hl
      go_enter Tryz.func118, Tryz.ntmps118
      go_wp2_with fail
      refine (r1_Check _ s hs).mono ?_; rintro e w1 ⟨rfl, rfl⟩
      rw [H5.out]
      go_wp2_with fail
      go_ret
      exact ⟨rfl, rfl⟩
  · have H5 := hid (show errN s.data.toList = 3 from by rw [errN, if_neg hf])
    have hf' : formB s.data.toList = false := by simpa using hf
    rw [hf']
    clear hf hf'
    go_enter Tryz.func118, Tryz.ntmps118
    go_wp2_with fail
    refine (r1_Check _ s hs).mono ?_; rintro e w1 ⟨rfl, rfl⟩
    rw [H5.out]
    go_wp2_with fail
    go_ret
    exact ⟨rfl, rfl⟩
end Go.Proofs.YtjgcjjbnnlnilaaGreatDoor

/- Walks: the reference's slash. -/
namespace Go.Proofs.YtjgcjjbnnlnilaaGreatDoor
open Go.RowKit
set_option linter.unusedVariables false

/-- k is the place of the first slash, or the text's length. -/
def isSlash (l : List UInt8) (k : Nat) : Prop := k ≤ l.length ∧ (∀ (j : Nat) (b : UInt8), j < k → l[j]? = some b → b ≠ 47) ∧ (k < l.length → l[k]? = some 47)

theorem r2_slash (w : World) (s : ByteArray) (hs : s.size ≤ 9223372036854775807) : Calls Tryz.prog 117 #[.string s] w fun e w' =>
    (∃ k : Nat, e = .returned (.int .i64 k) ∧ isSlash s.data.toList k) ∧ w = w' := by
  have hsl := hid (show s.data.toList.length = s.size from by simp)
  go_enter Tryz.func117, Tryz.ntmps117
  go_wp2_with fail
  go_loop [3] (fun ii => ∃ i : Nat, ii = .int .i64 i ∧ i ≤ s.size ∧ Hid (∀ (j : Nat) (b : UInt8), j < i → s.data.toList[j]? = some b → b ≠ 47)) (fun ii => s.size - (intOf ii).toNat)
  case atStart => exact ⟨0, rfl, Nat.zero_le _, fun j b hj => absurd hj (by omega)⟩
  case round =>
    obtain ⟨i, rfl, hi, hI⟩ := hrel
    by_cases hlt : i < s.size
    · have hb := hid (byte_get hlt)
      by_cases c1 : s[i] = 47
      · have q1 : ((s[i].toNat : Int) == 47) = true := by rw [c1]; rfl
        have hB := hid c1
        clear c1
        go_wp2_with fail
        go_ret
        exact ⟨⟨i, rfl, by rw [hsl.out]; omega, hI.out, fun _ => by rw [hb.out, hB.out]⟩, rfl⟩
      · have q1 : ((s[i].toNat : Int) == 47) = false := by
          rw [beq_eq_false_iff_ne]
          intro e
          refine c1 ?_
          have : s[i].toNat = (47 : UInt8).toNat := by simp; omega
          exact UInt8.toNat_inj.1 this
        have hB := hid c1
        clear c1
        go_wp2_with fail
        go_round
        case rel => exact ⟨i + 1, by go_num, by omega, fun j b hj hjb => by
          by_cases e : j = i
          · subst e; rw [hb.out] at hjb; cases hjb; exact hB.out
          · exact hI.out j b (by omega) hjb⟩
        case measure => simp [intOf] <;> omega
    · have e1 : i = s.size := by omega
      subst e1
      go_wp2_with fail
      go_ret
      exact ⟨⟨s.size, rfl, by rw [hsl.out]; omega, hI.out, fun h => by rw [hsl.out] at h; omega⟩, rfl⟩
end Go.Proofs.YtjgcjjbnnlnilaaGreatDoor

/- Walks: the reference's integer. -/
namespace Go.Proofs.YtjgcjjbnnlnilaaGreatDoor
open Go.RowKit
set_option linter.unusedVariables false

theorem r2_integer_minus (w : World) (s : ByteArray) (hs : s.size ≤ 9223372036854775807) (h0 : 0 < s.size) (h1 : s[0] = 45) : Calls Tryz.prog 112 #[.string s] w fun e w' =>
    e = .returned (.tuple #[.bool true, .string (s.extract 1 s.size), .bool (formB (s.extract 1 s.size).data.toList && !decide ((s.extract 1 s.size).data.toList = [48]))]) ∧ w = w' := by
  have q0 : decide ((0 : Int) < (s.size : Int)) = true := by simp; omega
  have q1 : ((s[0].toNat : Int) == 45) = true := by rw [h1]; rfl
  have H0 := hid h1
  clear h1
  have hts : (s.extract 1 s.size).size ≤ 9223372036854775807 := by simp; omega
  obtain ⟨t, ht⟩ : ∃ t, s.extract 1 s.size = t := ⟨_, rfl⟩
  rw [ht] at hts ⊢
  have HT := hid ht
  obtain ⟨f, hf⟩ : ∃ f, formB t.data.toList = f := ⟨_, rfl⟩
  rw [hf]
  have HF := hid hf
  clear ht hf
  go_enter Tryz.func112, Tryz.ntmps112
  go_wp2_with fail
  rw [HT.out]
  refine (r2_digits _ t hts).mono ?_; rintro e w1 ⟨rfl, rfl⟩
  rw [HF.out]
  cases f
  · go_wp2_with fail
    exact bodyPost_ret (v := .tuple #[.bool true, .string t, .bool false]) (by simp [results, Tryz.results112, go_sem]) rfl ⟨by simp, rfl⟩
  · go_wp2_with fail
    refine bodyPost_ret (v := .tuple #[.bool true, .string t, .bool (!(t.toList == [48]))]) (by simp [results, Tryz.results112, go_sem]) rfl ⟨?_, rfl⟩
    rw [Go.ByteArray.toList_eq]
    simp
    exact Bool.eq_iff_iff.2 (by simp)

theorem r2_integer_plain (w : World) (s : ByteArray) (hs : s.size ≤ 9223372036854775807) (h1 : ∀ h : 0 < s.size, s[0] ≠ 45) : Calls Tryz.prog 112 #[.string s] w fun e w' =>
    e = .returned (.tuple #[.bool false, .string s, .bool (formB s.data.toList)]) ∧ w = w' := by
  obtain ⟨f, hf⟩ : ∃ f, formB s.data.toList = f := ⟨_, rfl⟩
  rw [hf]
  have HF := hid hf
  clear hf
  by_cases h0 : 0 < s.size
  · have q0 : decide ((0 : Int) < (s.size : Int)) = true := by simp; omega
    have q1 : ((s[0].toNat : Int) == 45) = false := by
      rw [beq_eq_false_iff_ne]
      intro e
      refine h1 h0 ?_
      have : s[0].toNat = (45 : UInt8).toNat := by simp; omega
      exact UInt8.toNat_inj.1 this
    clear h1
    go_enter Tryz.func112, Tryz.ntmps112
    go_wp2_with fail
    refine (r2_digits _ s hs).mono ?_; rintro e w1 ⟨rfl, rfl⟩
    rw [HF.out]
    cases f
    all_goals
      go_wp2_with fail
      exact bodyPost_ret (v := .tuple #[.bool false, .string s, .bool _]) (by simp [results, Tryz.results112, go_sem]) rfl ⟨rfl, rfl⟩
  · obtain rfl : s = ⟨#[]⟩ := by
      apply ByteArray.ext
      exact Array.eq_empty_of_size_eq_zero (by have : s.data.size = s.size := rfl; omega)
    clear h1 h0 hs
    go_enter Tryz.func112, Tryz.ntmps112
    go_wp2_with fail
    refine (r2_digits _ ⟨#[]⟩ (Nat.zero_le _)).mono ?_; rintro e w1 ⟨rfl, rfl⟩
    rw [HF.out]
    cases f
    all_goals
      go_wp2_with fail
      exact bodyPost_ret (v := .tuple #[.bool false, .string ⟨#[]⟩, .bool _]) (by simp [results, Tryz.results112, go_sem]) rfl ⟨rfl, rfl⟩
end Go.Proofs.YtjgcjjbnnlnilaaGreatDoor

/- Walks: the reference's integer, whole; the slash and the cut. -/
namespace Go.Proofs.YtjgcjjbnnlnilaaGreatDoor
open Go.RowKit
open Go.Lib (decDigits nDigits)
set_option linter.unusedVariables false

theorem ba_list_iff {a b : ByteArray} : a.data.toList = b.data.toList ↔ a = b := ⟨ba_ext, fun e => by rw [e]⟩

theorem r2_integer (w : World) (s : ByteArray) (hs : s.size ≤ 9223372036854775807) : Calls Tryz.prog 112 #[.string s] w fun e w' =>
    e = .returned (.tuple #[.bool (iM s), .string (iD s), .bool (iB s)]) ∧ w = w' := by
  have hl : s.data.toList.length = s.size := by simp
  by_cases h : ∃ h0 : 0 < s.size, s[0] = 45
  · obtain ⟨h0, h1⟩ := h
    have hg := byte_get h0
    rw [h1] at hg
    obtain ⟨t, ht⟩ : ∃ t, s.data.toList = 45 :: t := by
      cases hc : s.data.toList with
      | nil => rw [hc] at hg; simp at hg
      | cons b t => rw [hc] at hg; simp at hg; exact ⟨t, by rw [hg]⟩
    have hM : iM s = true := by unfold iM Lib.hasPrefix; rw [ht]; simp [List.isPrefixOf]
    have hD : iD s = s.extract 1 s.size := by
      apply ba_ext
      rw [extract_list, ht]
      unfold iD Lib.trimPrefix
      rw [show Lib.hasPrefix s.data.toList [45] = true from hM, ht]
      have : s.size = t.length + 1 := by rw [← hl, ht]; simp
      simp [this]
    have H := r2_integer_minus w s hs h0 h1
    rw [← hD] at H
    have e : iB s = (formB (iD s).data.toList && !decide ((iD s).data.toList = [48])) := by
      unfold iB fB
      rw [hM, Bool.true_and]
      have : decide (iD s = ⟨#[48]⟩) = decide ((iD s).data.toList = [48]) := decide_eq_decide.2 (by rw [← ba_list_iff])
      rw [this]
    rw [hM, e]
    exact H
  · have h1 : ∀ h : 0 < s.size, s[0] ≠ 45 := fun h0 e => h ⟨h0, e⟩
    have hM : iM s = false := by
      unfold iM Lib.hasPrefix
      cases hc : s.data.toList with
      | nil => rfl
      | cons b t =>
        have h0 : 0 < s.size := by rw [← hl, hc]; simp
        have hg := byte_get h0
        rw [hc] at hg
        simp at hg
        have h3 : ((45 : UInt8) == b) = false := by rw [beq_eq_false_iff_ne, hg]; exact fun e => h1 h0 e.symm
        simp [List.isPrefixOf, h3]
    have hD : iD s = s := by
      apply ba_ext
      unfold iD Lib.trimPrefix
      rw [show Lib.hasPrefix s.data.toList [45] = false from hM]
      simp
    have H := r2_integer_plain w s hs h1
    have e : iB s = formB s.data.toList := by unfold iB fB; rw [hM, hD]; simp
    rw [hM, hD, e]
    exact H

/-- The first slash cuts the text. -/
theorem slash_cut {s : ByteArray} {k : Nat} (h : isSlash s.data.toList k) : k ≤ s.size ∧ cW s = s.extract 0 k ∧ cS s = decide (k < s.size) ∧ (k < s.size → cB s = s.extract (k + 1) s.size) := by
  obtain ⟨h1, h2, h3⟩ := h
  have hl : s.data.toList.length = s.size := by simp
  rcases sl_cases s.data.toList with hn | ⟨A, B, hA, e⟩
  · have hk : k = s.size := by
      rcases Nat.lt_or_ge k s.data.toList.length with hlt | hge
      · exact absurd rfl (hn 47 (List.mem_of_getElem? (h3 hlt)))
      · omega
    have hc := cut_none hn
    subst hk
    refine ⟨Nat.le_refl _, ?_, ?_, fun h => absurd h (Nat.lt_irrefl _)⟩
    · apply ba_ext; rw [extract_list]; unfold cW; rw [hc, List.drop_zero, Nat.sub_zero, ← hl, List.take_length]
    · unfold cS; rw [hc]; simp
  · have hL : s.data.toList.length = A.length + 1 + B.length := by rw [e]; simp; omega
    have hk : k = A.length := by
      rcases Nat.lt_trichotomy k A.length with hlt | heq | hgt
      · have := h3 (by omega)
        rw [e, List.getElem?_append_left hlt] at this
        exact absurd rfl (hA 47 (List.mem_of_getElem? this))
      · exact heq
      · exact absurd rfl (h2 A.length 47 hgt (by rw [e]; simp))
    have hc := cut_at (r := B) hA
    rw [← e] at hc
    subst hk
    refine ⟨by omega, ?_, ?_, fun _ => ?_⟩
    · apply ba_ext; rw [extract_list, e]; unfold cW; rw [hc]; simp
    · unfold cS; rw [hc]; simp; omega
    · apply ba_ext; rw [extract_list]; unfold cB; rw [hc]
      have : s.size - (A.length + 1) = B.length := by omega
      rw [this, e, show A ++ 47 :: B = (A ++ [47]) ++ B by simp, List.drop_left' (by simp), List.take_length]
end Go.Proofs.YtjgcjjbnnlnilaaGreatDoor

/- Words: a struct of a bool and two slices that lies in a block of its own; storing into it. -/
namespace Go.Proofs.YtjgcjjbnnlnilaaGreatDoor
open Go.RowKit
open Go.Lib (decDigits nDigits)
set_option linter.unusedVariables false

/-- No cell of these is an integer. -/
def NoInt (cs : Array Value) : Prop := ∀ (i : Nat) (k : IntKind) (x : Int), cs[i]? ≠ some (.int k x)

theorem NoInt.three (m : Bool) (a b : Option Addr) (n c n' c' : Nat) : NoInt #[.bool m, .slice a n c, .slice b n' c'] := by
  intro i k x h
  rcases i with _ | _ | _ | i <;> simp at h

theorem IsN.setQ {k : IntKind} {w : World} {v : Value} {n b : Nat} {cs : Array Value} {t : TypeId} (h : IsN k w v n) (hb : Blk w b cs t) (hc : NoInt cs) (j : Nat) (u : Value) : IsN k (w.setCell ⟨b, j, none⟩ u) v n := by
  obtain ⟨a, c, rfl, h1, h2, h3⟩ := h.ex
  refine ⟨a, c, rfl, h1, h2, fun i x hx => ?_⟩
  obtain ⟨g, o, e, hg, hcell⟩ := h3 i x hx
  refine ⟨g, o, e, by simpa [World.setCell] using hg, ?_⟩
  have hne : g ≠ b := by
    rintro rfl
    rw [hb.cell] at hcell
    have : x ∈ ints k (limbs n) := List.mem_of_getElem? hx
    obtain ⟨y, _, rfl⟩ := List.mem_map.1 this
    exact hc _ _ _ hcell
  rw [← hcell]
  unfold World.cell?
  rw [Below.heap_setCell _ _ _ _ (by simpa using hne)]

theorem set3 {w : World} {b : Nat} {m0 : Bool} {a0 b0 : Option Addr} {n0 c0 n1 c1 : Nat} {t : TypeId} (hb : Blk w b #[.bool m0, .slice a0 n0 c0, .slice b0 n1 c1] t) (m : Bool) (a a' : Option Addr) (n c n' c' : Nat) :
    (∀ (k : IntKind) (v : Value) (x : Nat), IsN k w v x → IsN k (((w.setCell ⟨b, 0, none⟩ (.bool m)).setCell ⟨b, 1, none⟩ (.slice a n c)).setCell ⟨b, 2, none⟩ (.slice a' n' c')) v x) ∧
    Blk (((w.setCell ⟨b, 0, none⟩ (.bool m)).setCell ⟨b, 1, none⟩ (.slice a n c)).setCell ⟨b, 2, none⟩ (.slice a' n' c')) b #[.bool m, .slice a n c, .slice a' n' c'] t := by
  have h1 := hb.set 0 (.bool m)
  have h2 := h1.set 1 (.slice a n c)
  have h3 := h2.set 2 (.slice a' n' c')
  simp at h1 h2 h3
  refine ⟨fun k v x h => ?_, h3⟩
  exact ((h.setQ hb (NoInt.three _ _ _ _ _ _ _) 0 _).setQ h1 (NoInt.three _ _ _ _ _ _ _) 1 _).setQ h2 (NoInt.three _ _ _ _ _ _ _) 2 _
end Go.Proofs.YtjgcjjbnnlnilaaGreatDoor

/- Walks: the reference's Write. -/
namespace Go.Proofs.YtjgcjjbnnlnilaaGreatDoor
open Go.RowKit
open Go.Lib (decDigits nDigits)
set_option linter.unusedVariables false
set_option linter.unusedSimpArgs false

/-- The ways of Write. -/
def WrKey (m : Bool) (B1 B2 T : ByteArray) (x : Int) : Prop :=
  (4000 < B1.size ∧ T = ⟨#[]⟩ ∧ x = 5) ∨ (B1.size ≤ 4000 ∧ 4000 < B2.size ∧ T = ⟨#[]⟩ ∧ x = 5) ∨
  (B1.size ≤ 4000 ∧ B2.size ≤ 4000 ∧ x = 0 ∧ ((m = false ∧ B2 = ⟨#[49]⟩ ∧ T = B1) ∨ (m = true ∧ B2 = ⟨#[49]⟩ ∧ T = ⟨#[45]⟩ ++ B1) ∨ (m = false ∧ ¬ B2 = ⟨#[49]⟩ ∧ T = B1 ++ ⟨#[47]⟩ ++ B2) ∨ (m = true ∧ ¬ B2 = ⟨#[49]⟩ ∧ T = ⟨#[45]⟩ ++ B1 ++ ⟨#[47]⟩ ++ B2)))

set_option maxRecDepth 100000 in
set_option maxHeartbeats 4000000 in
theorem r2_Write_walk (w : World) (m : Bool) (N D : Value) (n d : Nat) (B1 B2 T : ByteArray) (x : Int) (hn : IsN .i64 w N n) (hd : IsN .i64 w D d) (hln : (limbs n).length ≤ 1000000) (hld : (limbs d).length ≤ 1000000)
    (e1 : numB n = B1) (e2 : numB d = B2) (key : WrKey m B1 B2 T x) :
    Calls Tryz.prog 69 #[.agg #[.bool m, N, D]] w fun e w' => e = .returned (.tuple #[.string T, .int .i64 x]) ∧ Below w.heap.size w w' := by
  have HN := hid hn; have HD := hid hd; have LN := hid hln; have LD := hid hld; have E1 := hid e1; have E2 := hid e2
  obtain ⟨a1, c1, rfl, _⟩ := hn.openI
  obtain ⟨a2, c2, rfl, _⟩ := hd.openI
  obtain ⟨k1, hk1⟩ : ∃ k, (limbs n).length = k := ⟨_, rfl⟩
  obtain ⟨k2, hk2⟩ : ∃ k, (limbs d).length = k := ⟨_, rfl⟩
  rw [hk1] at HN ⊢
  rw [hk2] at HD ⊢
  clear hn hd hln hld e1 e2 hk1 hk2
  unfold WrKey at key
  rcases key with ⟨h1, rfl, rfl⟩ | ⟨h1, h2, rfl, rfl⟩ | ⟨h1, h2, rfl, ⟨rfl, rfl, rfl⟩ | ⟨rfl, rfl, rfl⟩ | ⟨rfl, h3, rfl⟩ | ⟨rfl, h3, rfl⟩⟩
  · have q0 : decide ((4000 : Int) < (B1.size : Int)) = true := by simp; omega
    clear h1
    go_enter Tryz.func69, Tryz.ntmps69
    go_wp2_with fail
    obtain ⟨W, hW⟩ : ∃ W, w.alloc (.cells #[.bool m, .slice a1 k1 c1, .slice a2 k2 c2] 89) = W := ⟨_, rfl⟩
    rw [hW]
    have X0 : Below w.heap.size w W := by rw [← hW]; exact (Below.refl _ _).alloc (Nat.le_refl _) _
    have Y0 : Blk W w.heap.size #[.bool m, .slice a1 k1 c1, .slice a2 k2 c2] 89 := by rw [← hW]; exact Blk.new w _ _
    have K : Hid (∀ w', Below W.heap.size W w' → w'.cell? ⟨w.heap.size, 0, none⟩ = some (.bool m) ∧ w'.cell? ⟨w.heap.size, 1, none⟩ = some (.slice a1 k1 c1) ∧ w'.cell? ⟨w.heap.size, 2, none⟩ = some (.slice a2 k2 c2)) :=
      fun w' hb => ⟨(Y0.call hb).cell 0, (Y0.call hb).cell 1, (Y0.call hb).cell 2⟩
    have HX0 := hid X0
    obtain ⟨k0, k1', k2'⟩ := K W (Below.refl _ _)
    have XN := hid (HN.out.call HX0.out); have XD := hid (HD.out.call HX0.out)
    clear Y0 X0 hW
    go_region_held3 (fun w' => w'.cell? ⟨w.heap.size, 0, none⟩ = some (.bool m) ∧ w'.cell? ⟨w.heap.size, 1, none⟩ = some (.slice a1 k1 c1) ∧ w'.cell? ⟨w.heap.size, 2, none⟩ = some (.slice a2 k2 c2))
      (first
        | exact K.out _ (Below.refl _ _).drew
        | exact K.out _ bb2.out
        | exact K.out _ bb1.out)
      (first
        | (go_at_call_of 62 (Value.slice a1 k1 c1); refine (r1_Write _ _ n (XN.out.call (by first | exact bb2.out | exact (Below.refl _ _).drew)) LN.out).mono ?_; rintro e w1 ⟨rfl, hb1⟩; rw [numV_eq, E1.out]; have bb1 := hid (bnext (by first | exact bb2.out | exact (Below.refl _ _).drew) hb1))
        | (go_at_call_of 62 (Value.slice a2 k2 c2); refine (r1_Write _ _ d (XD.out.call (by first | exact bb1.out | exact (Below.refl _ _).drew)) LD.out).mono ?_; rintro e w2 ⟨rfl, hb2⟩; rw [numV_eq, E2.out]; have bb2 := hid (bnext (by first | exact bb1.out | exact (Below.refl _ _).drew) hb2)))
    go_wp2_with fail
    go_ret2
    exact ⟨rfl, bnext HX0.out bb2.out⟩
  · have q0 : decide ((4000 : Int) < (B1.size : Int)) = false := by simp; omega
    have q1 : decide ((4000 : Int) < (B2.size : Int)) = true := by simp; omega
    clear h1 h2
    go_enter Tryz.func69, Tryz.ntmps69
    go_wp2_with fail
    obtain ⟨W, hW⟩ : ∃ W, w.alloc (.cells #[.bool m, .slice a1 k1 c1, .slice a2 k2 c2] 89) = W := ⟨_, rfl⟩
    rw [hW]
    have X0 : Below w.heap.size w W := by rw [← hW]; exact (Below.refl _ _).alloc (Nat.le_refl _) _
    have Y0 : Blk W w.heap.size #[.bool m, .slice a1 k1 c1, .slice a2 k2 c2] 89 := by rw [← hW]; exact Blk.new w _ _
    have K : Hid (∀ w', Below W.heap.size W w' → w'.cell? ⟨w.heap.size, 0, none⟩ = some (.bool m) ∧ w'.cell? ⟨w.heap.size, 1, none⟩ = some (.slice a1 k1 c1) ∧ w'.cell? ⟨w.heap.size, 2, none⟩ = some (.slice a2 k2 c2)) :=
      fun w' hb => ⟨(Y0.call hb).cell 0, (Y0.call hb).cell 1, (Y0.call hb).cell 2⟩
    have HX0 := hid X0
    obtain ⟨k0, k1', k2'⟩ := K W (Below.refl _ _)
    have XN := hid (HN.out.call HX0.out); have XD := hid (HD.out.call HX0.out)
    clear Y0 X0 hW
    go_region_held3 (fun w' => w'.cell? ⟨w.heap.size, 0, none⟩ = some (.bool m) ∧ w'.cell? ⟨w.heap.size, 1, none⟩ = some (.slice a1 k1 c1) ∧ w'.cell? ⟨w.heap.size, 2, none⟩ = some (.slice a2 k2 c2))
      (first
        | exact K.out _ (Below.refl _ _).drew
        | exact K.out _ bb2.out
        | exact K.out _ bb1.out)
      (first
        | (go_at_call_of 62 (Value.slice a1 k1 c1); refine (r1_Write _ _ n (XN.out.call (by first | exact bb2.out | exact (Below.refl _ _).drew)) LN.out).mono ?_; rintro e w1 ⟨rfl, hb1⟩; rw [numV_eq, E1.out]; have bb1 := hid (bnext (by first | exact bb2.out | exact (Below.refl _ _).drew) hb1))
        | (go_at_call_of 62 (Value.slice a2 k2 c2); refine (r1_Write _ _ d (XD.out.call (by first | exact bb1.out | exact (Below.refl _ _).drew)) LD.out).mono ?_; rintro e w2 ⟨rfl, hb2⟩; rw [numV_eq, E2.out]; have bb2 := hid (bnext (by first | exact bb1.out | exact (Below.refl _ _).drew) hb2)))
    go_wp2_with fail
    go_ret2
    exact ⟨rfl, bnext HX0.out bb2.out⟩
  · have q0 : decide ((4000 : Int) < (T.size : Int)) = false := by simp; omega
    clear h2
    go_enter Tryz.func69, Tryz.ntmps69
    go_wp2_with fail
    obtain ⟨W, hW⟩ : ∃ W, w.alloc (.cells #[.bool false, .slice a1 k1 c1, .slice a2 k2 c2] 89) = W := ⟨_, rfl⟩
    rw [hW]
    have X0 : Below w.heap.size w W := by rw [← hW]; exact (Below.refl _ _).alloc (Nat.le_refl _) _
    have Y0 : Blk W w.heap.size #[.bool false, .slice a1 k1 c1, .slice a2 k2 c2] 89 := by rw [← hW]; exact Blk.new w _ _
    have K : Hid (∀ w', Below W.heap.size W w' → w'.cell? ⟨w.heap.size, 0, none⟩ = some (.bool false) ∧ w'.cell? ⟨w.heap.size, 1, none⟩ = some (.slice a1 k1 c1) ∧ w'.cell? ⟨w.heap.size, 2, none⟩ = some (.slice a2 k2 c2)) :=
      fun w' hb => ⟨(Y0.call hb).cell 0, (Y0.call hb).cell 1, (Y0.call hb).cell 2⟩
    have HX0 := hid X0
    obtain ⟨k0, k1', k2'⟩ := K W (Below.refl _ _)
    have XN := hid (HN.out.call HX0.out); have XD := hid (HD.out.call HX0.out)
    clear Y0 X0 hW
    go_region_held3 (fun w' => w'.cell? ⟨w.heap.size, 0, none⟩ = some (.bool false) ∧ w'.cell? ⟨w.heap.size, 1, none⟩ = some (.slice a1 k1 c1) ∧ w'.cell? ⟨w.heap.size, 2, none⟩ = some (.slice a2 k2 c2))
      (first
        | exact K.out _ (Below.refl _ _).drew
        | exact K.out _ bb2.out
        | exact K.out _ bb1.out)
      (first
        | (go_at_call_of 62 (Value.slice a1 k1 c1); refine (r1_Write _ _ n (XN.out.call (by first | exact bb2.out | exact (Below.refl _ _).drew)) LN.out).mono ?_; rintro e w1 ⟨rfl, hb1⟩; rw [numV_eq, E1.out]; have bb1 := hid (bnext (by first | exact bb2.out | exact (Below.refl _ _).drew) hb1))
        | (go_at_call_of 62 (Value.slice a2 k2 c2); refine (r1_Write _ _ d (XD.out.call (by first | exact bb1.out | exact (Below.refl _ _).drew)) LD.out).mono ?_; rintro e w2 ⟨rfl, hb2⟩; rw [numV_eq, E2.out]; have bb2 := hid (bnext (by first | exact bb1.out | exact (Below.refl _ _).drew) hb2)))
    go_wp2_with fail
    go_ret2
    exact ⟨rfl, bnext HX0.out bb2.out⟩
  · have q0 : decide ((4000 : Int) < (B1.size : Int)) = false := by simp; omega
    clear h2
    go_enter Tryz.func69, Tryz.ntmps69
    go_wp2_with fail
    obtain ⟨W, hW⟩ : ∃ W, w.alloc (.cells #[.bool true, .slice a1 k1 c1, .slice a2 k2 c2] 89) = W := ⟨_, rfl⟩
    rw [hW]
    have X0 : Below w.heap.size w W := by rw [← hW]; exact (Below.refl _ _).alloc (Nat.le_refl _) _
    have Y0 : Blk W w.heap.size #[.bool true, .slice a1 k1 c1, .slice a2 k2 c2] 89 := by rw [← hW]; exact Blk.new w _ _
    have K : Hid (∀ w', Below W.heap.size W w' → w'.cell? ⟨w.heap.size, 0, none⟩ = some (.bool true) ∧ w'.cell? ⟨w.heap.size, 1, none⟩ = some (.slice a1 k1 c1) ∧ w'.cell? ⟨w.heap.size, 2, none⟩ = some (.slice a2 k2 c2)) :=
      fun w' hb => ⟨(Y0.call hb).cell 0, (Y0.call hb).cell 1, (Y0.call hb).cell 2⟩
    have HX0 := hid X0
    obtain ⟨k0, k1', k2'⟩ := K W (Below.refl _ _)
    have XN := hid (HN.out.call HX0.out); have XD := hid (HD.out.call HX0.out)
    clear Y0 X0 hW
    go_region_held3 (fun w' => w'.cell? ⟨w.heap.size, 0, none⟩ = some (.bool true) ∧ w'.cell? ⟨w.heap.size, 1, none⟩ = some (.slice a1 k1 c1) ∧ w'.cell? ⟨w.heap.size, 2, none⟩ = some (.slice a2 k2 c2))
      (first
        | exact K.out _ (Below.refl _ _).drew
        | exact K.out _ bb2.out
        | exact K.out _ bb1.out)
      (first
        | (go_at_call_of 62 (Value.slice a1 k1 c1); refine (r1_Write _ _ n (XN.out.call (by first | exact bb2.out | exact (Below.refl _ _).drew)) LN.out).mono ?_; rintro e w1 ⟨rfl, hb1⟩; rw [numV_eq, E1.out]; have bb1 := hid (bnext (by first | exact bb2.out | exact (Below.refl _ _).drew) hb1))
        | (go_at_call_of 62 (Value.slice a2 k2 c2); refine (r1_Write _ _ d (XD.out.call (by first | exact bb1.out | exact (Below.refl _ _).drew)) LD.out).mono ?_; rintro e w2 ⟨rfl, hb2⟩; rw [numV_eq, E2.out]; have bb2 := hid (bnext (by first | exact bb1.out | exact (Below.refl _ _).drew) hb2)))
    go_wp2_with fail
    go_ret2
    exact ⟨rfl, bnext HX0.out bb2.out⟩
  · have q0 : decide ((4000 : Int) < (B1.size : Int)) = false := by simp; omega
    have q1 : decide ((4000 : Int) < (B2.size : Int)) = false := by simp; omega
    have i3 := ne_lit (l := [49]) h3
    go_enter Tryz.func69, Tryz.ntmps69
    go_wp2_with fail
    obtain ⟨W, hW⟩ : ∃ W, w.alloc (.cells #[.bool false, .slice a1 k1 c1, .slice a2 k2 c2] 89) = W := ⟨_, rfl⟩
    rw [hW]
    have X0 : Below w.heap.size w W := by rw [← hW]; exact (Below.refl _ _).alloc (Nat.le_refl _) _
    have Y0 : Blk W w.heap.size #[.bool false, .slice a1 k1 c1, .slice a2 k2 c2] 89 := by rw [← hW]; exact Blk.new w _ _
    have K : Hid (∀ w', Below W.heap.size W w' → w'.cell? ⟨w.heap.size, 0, none⟩ = some (.bool false) ∧ w'.cell? ⟨w.heap.size, 1, none⟩ = some (.slice a1 k1 c1) ∧ w'.cell? ⟨w.heap.size, 2, none⟩ = some (.slice a2 k2 c2)) :=
      fun w' hb => ⟨(Y0.call hb).cell 0, (Y0.call hb).cell 1, (Y0.call hb).cell 2⟩
    have HX0 := hid X0
    obtain ⟨k0, k1', k2'⟩ := K W (Below.refl _ _)
    have XN := hid (HN.out.call HX0.out); have XD := hid (HD.out.call HX0.out)
    clear Y0 X0 hW
    go_region_held3 (fun w' => w'.cell? ⟨w.heap.size, 0, none⟩ = some (.bool false) ∧ w'.cell? ⟨w.heap.size, 1, none⟩ = some (.slice a1 k1 c1) ∧ w'.cell? ⟨w.heap.size, 2, none⟩ = some (.slice a2 k2 c2))
      (first
        | exact K.out _ (Below.refl _ _).drew
        | exact K.out _ bb2.out
        | exact K.out _ bb1.out)
      (first
        | (go_at_call_of 62 (Value.slice a1 k1 c1); refine (r1_Write _ _ n (XN.out.call (by first | exact bb2.out | exact (Below.refl _ _).drew)) LN.out).mono ?_; rintro e w1 ⟨rfl, hb1⟩; rw [numV_eq, E1.out]; have bb1 := hid (bnext (by first | exact bb2.out | exact (Below.refl _ _).drew) hb1))
        | (go_at_call_of 62 (Value.slice a2 k2 c2); refine (r1_Write _ _ d (XD.out.call (by first | exact bb1.out | exact (Below.refl _ _).drew)) LD.out).mono ?_; rintro e w2 ⟨rfl, hb2⟩; rw [numV_eq, E2.out]; have bb2 := hid (bnext (by first | exact bb1.out | exact (Below.refl _ _).drew) hb2)))
    go_wp2_with fail
    go_ret2
    exact ⟨rfl, bnext HX0.out bb2.out⟩
  · have q0 : decide ((4000 : Int) < (B1.size : Int)) = false := by simp; omega
    have q1 : decide ((4000 : Int) < (B2.size : Int)) = false := by simp; omega
    have i3 := ne_lit (l := [49]) h3
    go_enter Tryz.func69, Tryz.ntmps69
    go_wp2_with fail
    obtain ⟨W, hW⟩ : ∃ W, w.alloc (.cells #[.bool true, .slice a1 k1 c1, .slice a2 k2 c2] 89) = W := ⟨_, rfl⟩
    rw [hW]
    have X0 : Below w.heap.size w W := by rw [← hW]; exact (Below.refl _ _).alloc (Nat.le_refl _) _
    have Y0 : Blk W w.heap.size #[.bool true, .slice a1 k1 c1, .slice a2 k2 c2] 89 := by rw [← hW]; exact Blk.new w _ _
    have K : Hid (∀ w', Below W.heap.size W w' → w'.cell? ⟨w.heap.size, 0, none⟩ = some (.bool true) ∧ w'.cell? ⟨w.heap.size, 1, none⟩ = some (.slice a1 k1 c1) ∧ w'.cell? ⟨w.heap.size, 2, none⟩ = some (.slice a2 k2 c2)) :=
      fun w' hb => ⟨(Y0.call hb).cell 0, (Y0.call hb).cell 1, (Y0.call hb).cell 2⟩
    have HX0 := hid X0
    obtain ⟨k0, k1', k2'⟩ := K W (Below.refl _ _)
    have XN := hid (HN.out.call HX0.out); have XD := hid (HD.out.call HX0.out)
    clear Y0 X0 hW
    go_region_held3 (fun w' => w'.cell? ⟨w.heap.size, 0, none⟩ = some (.bool true) ∧ w'.cell? ⟨w.heap.size, 1, none⟩ = some (.slice a1 k1 c1) ∧ w'.cell? ⟨w.heap.size, 2, none⟩ = some (.slice a2 k2 c2))
      (first
        | exact K.out _ (Below.refl _ _).drew
        | exact K.out _ bb2.out
        | exact K.out _ bb1.out)
      (first
        | (go_at_call_of 62 (Value.slice a1 k1 c1); refine (r1_Write _ _ n (XN.out.call (by first | exact bb2.out | exact (Below.refl _ _).drew)) LN.out).mono ?_; rintro e w1 ⟨rfl, hb1⟩; rw [numV_eq, E1.out]; have bb1 := hid (bnext (by first | exact bb2.out | exact (Below.refl _ _).drew) hb1))
        | (go_at_call_of 62 (Value.slice a2 k2 c2); refine (r1_Write _ _ d (XD.out.call (by first | exact bb1.out | exact (Below.refl _ _).drew)) LD.out).mono ?_; rintro e w2 ⟨rfl, hb2⟩; rw [numV_eq, E2.out]; have bb2 := hid (bnext (by first | exact bb1.out | exact (Below.refl _ _).drew) hb2)))
    go_wp2_with fail
    go_ret2
    exact ⟨rfl, bnext HX0.out bb2.out⟩

theorem numB_is1 {d : Nat} : numB d = ⟨#[49]⟩ ↔ d = 1 := by
  constructor
  · intro h
    rw [← numB_one] at h
    rcases Nat.decEq d 1 with h1 | h1
    · exact absurd h (numB_ne h1)
    · exact h1
  · rintro rfl; exact numB_one

theorem r2_Write (w : World) (v : Value) (q : Rat) (h : IsQ .i64 w v q) (h1 : (limbs q.num.natAbs).length ≤ 1000000) (h2 : (limbs q.den).length ≤ 1000000) :
    Calls Tryz.prog 69 #[v] w fun e w' => e = .returned (.tuple #[.string (outB q), .int .i64 (outE q)]) ∧ Below w.heap.size w w' := by
  obtain ⟨N, D, rfl, hn, hd⟩ := h.ex
  refine r2_Write_walk w _ N D q.num.natAbs q.den (numB q.num.natAbs) (numB q.den) (outB q) (outE q) hn hd h1 h2 rfl rfl ?_
  unfold WrKey outB outE
  rw [numB_size, numB_size]
  by_cases o1 : 4000 < nDigits q.num.natAbs
  · have ho : ovQ q := .inl o1
    rw [if_pos ho, if_pos ho]
    exact .inl ⟨o1, rfl, rfl⟩
  · by_cases o2 : 4000 < nDigits q.den
    · have ho : ovQ q := .inr o2
      rw [if_pos ho, if_pos ho]
      exact .inr (.inl ⟨by omega, o2, rfl, rfl⟩)
    · have ho : ¬ ovQ q := fun h => h.elim o1 o2
      rw [if_neg ho, if_neg ho]
      refine .inr (.inr ⟨by omega, by omega, rfl, ?_⟩)
      unfold txQ
      rw [numB_is1]
      generalize decide (q.num < 0) = m
      by_cases hd1 : q.den = 1
      · rw [hd1]
        cases m
        · exact .inl ⟨rfl, rfl, ba_ext (by simp [txB, numB])⟩
        · exact .inr (.inl ⟨rfl, rfl, ba_ext (by simp [txB, numB])⟩)
      · cases m
        · exact .inr (.inr (.inl ⟨rfl, hd1, ba_ext (by simp [txB, numB, hd1])⟩))
        · exact .inr (.inr (.inr ⟨rfl, hd1, ba_ext (by simp [txB, numB, hd1])⟩))
end Go.Proofs.YtjgcjjbnnlnilaaGreatDoor

/- Walks: the reference's Power. -/
namespace Go.Proofs.YtjgcjjbnnlnilaaGreatDoor
open Go.RowKit
open Go.Lib (decDigits nDigits)
set_option linter.unusedVariables false

/-- What Power returns. -/
def RetPow (n : Nat) (e : Ending) (w' : World) : Prop :=
  (nDigits n ≤ 4000 ∧ ∃ v, e = .returned (.tuple #[v, .bool true]) ∧ IsN .i64 w' v n) ∨ (4000 < nDigits n ∧ e = .returned (.tuple #[.slice none 0 0, .bool false]))

theorem isN_one (w : World) : IsN .i64 (w.alloc (.cells #[.int .i64 1] 3)) (.slice (some ⟨w.heap.size, 0, none⟩) 1 1) 1 := by
  unfold IsN
  rw [limbs_one]
  exact Row.of_blk (b := w.heap.size) (n := 1) (c := 1) (cs := #[.int .i64 1]) (Blk.new w _ _) rfl (by unfold maxLen; omega) (fun i x hx => by simpa [ints] using hx) (Nat.le_refl _) (by unfold maxLen; omega)

theorem bits_and_one (m : Nat) (h : m < 9223372036854775808) : bits .and .i64 (m : Int) 1 = ((m % 2 : Nat) : Int) := by
  show IntKind.i64.wrap ((BitVec.ofInt 64 (m : Int) &&& BitVec.ofInt 64 1).toNat : Int) = _
  have h1 : (BitVec.ofInt 64 (m : Int)).toNat = m := by rw [BitVec.ofInt_natCast, BitVec.toNat_ofNat]; exact Nat.mod_eq_of_lt (by omega)
  rw [BitVec.toNat_and, h1, show (BitVec.ofInt 64 1).toNat = 1 by rfl, Nat.and_one_is_mod, IntKind.wrap_i64]
  omega

theorem bit_test (n k : Nat) (h : n ≤ 9223372036854775807) : (bits .and .i64 ((n : Int) / 2 ^ k) 1 == 1) = decide (n / 2 ^ k % 2 = 1) := by
  have h1 : ((n : Int) / 2 ^ k) = ((n / 2 ^ k : Nat) : Int) := by rw [Int.natCast_ediv, Int.natCast_pow]; rfl
  have h2 : n / 2 ^ k ≤ n := Nat.div_le_self _ _
  rw [h1, bits_and_one _ (by omega), Bool.eq_iff_iff, beq_iff_eq, decide_eq_true_eq]
  omega

theorem half_pow (a n k : Nat) : a ^ (n / 2 ^ k) = a ^ (n / 2 ^ (k + 1)) * a ^ (n / 2 ^ (k + 1)) * (if n / 2 ^ k % 2 = 1 then a else 1) := by
  have h : n / 2 ^ (k + 1) = n / 2 ^ k / 2 := by rw [Nat.pow_succ, Nat.div_div_eq_div_mul]
  rw [h]
  generalize n / 2 ^ k = m
  have hm : m = m / 2 + m / 2 + m % 2 := by omega
  conv => lhs; rw [hm]
  rw [Nat.pow_add, Nat.pow_add]
  rcases (show m % 2 = 0 ∨ m % 2 = 1 by omega) with e | e
  · rw [e, if_neg (by omega), Nat.pow_zero]
  · rw [e, if_pos rfl, Nat.pow_one]

set_option maxHeartbeats 1000000 in
theorem r1_Power_zero (w : World) (v : Value) (a : Nat) (ha : IsN .i64 w v a) : Calls Tryz.prog 68 #[v, .int .i64 0] w fun e w' => RetPow (a ^ 0) e w' ∧ Below w.heap.size w w' := by
  have H1 := hid (isN_one w)
  go_enter Tryz.func68, Tryz.ntmps68
  go_wp2_with fail
  go_ret2
  exact ⟨.inl ⟨by rw [Nat.pow_zero, nDigits_one]; omega, _, rfl, by rw [Nat.pow_zero]; exact H1.out⟩, (Below.refl _ _).alloc (Nat.le_refl _) _⟩

set_option maxHeartbeats 1000000 in
theorem r1_Power_small (w : World) (v : Value) (a n : Nat) (ha : IsN .i64 w v a) (hs : a ≤ 1) (hn : 0 < n) (hn2 : n ≤ 9223372036854775807) : Calls Tryz.prog 68 #[v, .int .i64 n] w fun e w' => RetPow (a ^ n) e w' ∧ Below w.heap.size w w' := by
  have H1 := hid (isN_one w)
  have HA := hid ha
  have hord := hid (show ordN a 1 ≤ 0 from by unfold ordN; split; · omega
                                              · split <;> omega)
  have hpow := hid (show a ^ n = a ∧ nDigits a ≤ 4000 from by
    rcases (show a = 0 ∨ a = 1 by omega) with rfl | rfl
    · exact ⟨Nat.zero_pow hn, by rw [nDigits_zero]; omega⟩
    · exact ⟨Nat.one_pow n, by rw [nDigits_one]; omega⟩)
  obtain ⟨a1, c1, rfl, _⟩ := ha.openI
  have q0 : ((n : Int) == 0) = false := by simp; omega
  have hb0 : Below w.heap.size w (w.alloc (.cells #[.int .i64 1] 3)) := (Below.refl _ _).alloc (Nat.le_refl _) _
  have HB0 := hid hb0
  clear ha hs hb0
  go_enter Tryz.func68, Tryz.ntmps68
  go_wp2_with fail
  refine (r1_Order _ _ _ a 1 (HA.out.call HB0.out) H1.out).mono ?_; rintro e w1 ⟨rfl, hb1⟩
  have B1 := hid (bnext HB0.out hb1); clear hb1
  obtain ⟨t, ht⟩ : ∃ t, ordN a 1 = t := ⟨_, rfl⟩
  rw [ht] at hord ⊢
  have q1 : decide (t ≤ 0) = true := by have := hord.out; simp; omega
  clear ht
  go_wp2_with fail
  go_ret2
  exact ⟨.inl ⟨by rw [hpow.out.1]; exact hpow.out.2, _, rfl, by rw [hpow.out.1]; exact HA.out.call B1.out⟩, B1.out⟩

set_option maxHeartbeats 1000000 in
theorem r1_Power_big (w : World) (v : Value) (a n : Nat) (ha : IsN .i64 w v a) (hs : 1 < a) (hd : nDigits a ≤ 4000) (hn : 0 < n) (hn2 : n ≤ 9223372036854775807) : Calls Tryz.prog 68 #[v, .int .i64 n] w fun e w' => RetPow (a ^ n) e w' ∧ Below w.heap.size w w' := by
  have H1 := hid (isN_one w)
  have HA := hid ha
  have hord := hid (ordN_gt hs)
  obtain ⟨a1, c1, rfl, _⟩ := ha.openI
  have q0 : ((n : Int) == 0) = false := by simp; omega
  have hb0 : Below w.heap.size w (w.alloc (.cells #[.int .i64 1] 3)) := (Below.refl _ _).alloc (Nat.le_refl _) _
  have HB0 := hid hb0; have HS := hid hs; have HD := hid hd
  clear ha hs hb0 hd
  go_enter Tryz.func68, Tryz.ntmps68
  go_wp2_with fail
  refine (r1_Order _ _ _ a 1 (HA.out.call HB0.out) H1.out).mono ?_; rintro e w1 ⟨rfl, hb1⟩
  have B1 := hid (bnext HB0.out hb1); have O1 := hid (H1.out.call hb1); clear hb1
  rw [hord.out]
  go_wp2_with fail
  go_loopw [7, 8] (fun oo kk wr => ∃ (j : Nat) (t : Int), kk = .int .i64 t ∧ t = (j : Int) - 1 ∧ j ≤ 63 ∧ Hid (IsN .i64 wr oo (a ^ (n / 2 ^ j))) ∧ Hid (nDigits (a ^ (n / 2 ^ j)) ≤ 4000) ∧ Hid (Below w.heap.size w wr)) (fun _ kk _ => (intOf kk + 1).toNat)
  case atStart => exact ⟨63, _, rfl, by omega, by omega, by rw [Nat.div_eq_of_lt (by omega), Nat.pow_zero]; exact O1, by rw [Nat.div_eq_of_lt (by omega), Nat.pow_zero, nDigits_one, Hid]; omega, B1⟩
  case round =>
    obtain ⟨j, t, rfl, ht, hj, hO, hD, hB⟩ := hrel
    obtain ⟨a2, c2, rfl, _⟩ := hO.out.openI
    cases j with
    | zero =>
      obtain rfl : t = -1 := by omega
      clear ht
      go_wp2_with fail
      go_ret2
      have h2 := hD.out
      rw [Nat.pow_zero, Nat.div_one] at h2
      exact ⟨.inl ⟨h2, _, rfl, hO.out.cast (by rw [Nat.pow_zero, Nat.div_one])⟩, hB.out⟩
    | succ k =>
      obtain rfl : t = (k : Int) := by omega
      clear ht
      have hl := hid (limbs_of_digits hD.out)
      have hla := hid (limbs_of_digits HD.out)
      have hbt := bit_test n k hn2
      by_cases hbit : n / 2 ^ k % 2 = 1
      · rw [decide_eq_true hbit] at hbt
        have HM := hid (show a ^ (n / 2 ^ k) = a ^ (n / 2 ^ (k + 1)) * a ^ (n / 2 ^ (k + 1)) * a from by rw [half_pow, if_pos hbit])
        have HLM := hid (show (limbs (a ^ (n / 2 ^ (k + 1)) * a ^ (n / 2 ^ (k + 1)) * a)).length ≤ 1000000 from by have := limbs_mul (limbs_mul hl.out hl.out) hla.out; omega)
        clear hbit
        go_wp2_with fail
        refine (r1_Times _ _ _ _ _ hO.out hO.out (by have := hl.out; omega) (by have := hl.out; omega)).mono ?_
        rintro e w2 ⟨⟨v2, rfl, hv2⟩, hb2⟩
        have V2 := hid hv2; have B2 := hid (bnext hB.out hb2); clear hv2 hb2
        go_wp2_with fail
        refine (r1_Times _ v2 _ _ a V2.out (HA.out.call B2.out) (by have := limbs_mul hl.out hl.out; omega) (by have := hla.out; omega)).mono ?_
        rintro e w3 ⟨⟨v3, rfl, hv3⟩, hb3⟩
        have V3 := hid hv3; have B3 := hid (bnext B2.out hb3); clear hv3 hb3
        obtain ⟨Bs, hBs⟩ : ∃ Bs, numB (a ^ (n / 2 ^ (k + 1)) * a ^ (n / 2 ^ (k + 1)) * a) = Bs := ⟨_, rfl⟩
        have HBS := hid hBs
        have hBz := hid (show Bs.size = nDigits (a ^ (n / 2 ^ (k + 1)) * a ^ (n / 2 ^ (k + 1)) * a) from by rw [← hBs]; exact numB_size _)
        clear hBs
        by_cases hlong : 4000 < nDigits (a ^ (n / 2 ^ (k + 1)) * a ^ (n / 2 ^ (k + 1)) * a)
        · have q3 : decide ((4000 : Int) < (Bs.size : Int)) = true := by rw [hBz.out]; simp; omega
          have HLO := hid (show 4000 < nDigits (a ^ n) from Nat.lt_of_lt_of_le hlong (by rw [← HM.out]; exact nDigits_mono (Nat.pow_le_pow_right (by have := HS.out; omega) (Nat.div_le_self _ _))))
          clear hlong
          go_wp2_with fail
          refine (r1_Write _ v3 (a ^ (n / 2 ^ (k + 1)) * a ^ (n / 2 ^ (k + 1)) * a) V3.out HLM.out).mono ?_; rintro e w9 ⟨rfl, hb9⟩
          have B9 := hid (bnext B3.out hb9); clear hb9
          rw [numV_eq, HBS.out]
          go_wp2_with fail
          go_ret2
          exact ⟨.inr ⟨HLO.out, rfl⟩, B9.out⟩
        · have q3 : decide ((4000 : Int) < (Bs.size : Int)) = false := by rw [hBz.out]; simp; omega
          have HLO := hid (show nDigits (a ^ (n / 2 ^ k)) ≤ 4000 from by rw [HM.out]; omega)
          clear hlong
          go_wp2_with fail
          refine (r1_Write _ v3 (a ^ (n / 2 ^ (k + 1)) * a ^ (n / 2 ^ (k + 1)) * a) V3.out HLM.out).mono ?_; rintro e w9 ⟨rfl, hb9⟩
          have B9 := hid (bnext B3.out hb9); have V9 := hid (V3.out.call hb9); clear hb9
          rw [numV_eq, HBS.out]
          go_wp2_with fail
          go_roundw
          case rel => exact ⟨k, _, rfl, rfl, by omega, by rw [HM.out]; exact V9, HLO, B9⟩
          case measure => simp [intOf] <;> omega
      · rw [decide_eq_false hbit] at hbt
        have HM := hid (show a ^ (n / 2 ^ k) = a ^ (n / 2 ^ (k + 1)) * a ^ (n / 2 ^ (k + 1)) from by rw [half_pow, if_neg hbit, Nat.mul_one])
        have HLM := hid (show (limbs (a ^ (n / 2 ^ (k + 1)) * a ^ (n / 2 ^ (k + 1)))).length ≤ 1000000 from by have := limbs_mul hl.out hl.out; omega)
        clear hbit
        go_wp2_with fail
        refine (r1_Times _ _ _ _ _ hO.out hO.out (by have := hl.out; omega) (by have := hl.out; omega)).mono ?_
        rintro e w2 ⟨⟨v2, rfl, hv2⟩, hb2⟩
        have V2 := hid hv2; have B2 := hid (bnext hB.out hb2); clear hv2 hb2
        obtain ⟨Bs, hBs⟩ : ∃ Bs, numB (a ^ (n / 2 ^ (k + 1)) * a ^ (n / 2 ^ (k + 1))) = Bs := ⟨_, rfl⟩
        have HBS := hid hBs
        have hBz := hid (show Bs.size = nDigits (a ^ (n / 2 ^ (k + 1)) * a ^ (n / 2 ^ (k + 1))) from by rw [← hBs]; exact numB_size _)
        clear hBs
        by_cases hlong : 4000 < nDigits (a ^ (n / 2 ^ (k + 1)) * a ^ (n / 2 ^ (k + 1)))
        · have q3 : decide ((4000 : Int) < (Bs.size : Int)) = true := by rw [hBz.out]; simp; omega
          have HLO := hid (show 4000 < nDigits (a ^ n) from Nat.lt_of_lt_of_le hlong (by rw [← HM.out]; exact nDigits_mono (Nat.pow_le_pow_right (by have := HS.out; omega) (Nat.div_le_self _ _))))
          clear hlong
          go_wp2_with fail
          refine (r1_Write _ v2 (a ^ (n / 2 ^ (k + 1)) * a ^ (n / 2 ^ (k + 1))) V2.out HLM.out).mono ?_; rintro e w9 ⟨rfl, hb9⟩
          have B9 := hid (bnext B2.out hb9); clear hb9
          rw [numV_eq, HBS.out]
          go_wp2_with fail
          go_ret2
          exact ⟨.inr ⟨HLO.out, rfl⟩, B9.out⟩
        · have q3 : decide ((4000 : Int) < (Bs.size : Int)) = false := by rw [hBz.out]; simp; omega
          have HLO := hid (show nDigits (a ^ (n / 2 ^ k)) ≤ 4000 from by rw [HM.out]; omega)
          clear hlong
          go_wp2_with fail
          refine (r1_Write _ v2 (a ^ (n / 2 ^ (k + 1)) * a ^ (n / 2 ^ (k + 1))) V2.out HLM.out).mono ?_; rintro e w9 ⟨rfl, hb9⟩
          have B9 := hid (bnext B2.out hb9); have V9 := hid (V2.out.call hb9); clear hb9
          rw [numV_eq, HBS.out]
          go_wp2_with fail
          go_roundw
          case rel => exact ⟨k, _, rfl, rfl, by omega, by rw [HM.out]; exact V9, HLO, B9⟩
          case measure => simp [intOf] <;> omega

theorem r1_Power (w : World) (v : Value) (a n : Nat) (ha : IsN .i64 w v a) (hd : nDigits a ≤ 4000) (hn2 : n ≤ 9223372036854775807) : Calls Tryz.prog 68 #[v, .int .i64 n] w fun e w' => RetPow (a ^ n) e w' ∧ Below w.heap.size w w' := by
  rcases Nat.eq_zero_or_pos n with rfl | hn
  · exact r1_Power_zero w v a ha
  · by_cases hs : 1 < a
    · exact r1_Power_big w v a n ha hs hd hn hn2
    · exact r1_Power_small w v a n ha (by omega) hn hn2
end Go.Proofs.YtjgcjjbnnlnilaaGreatDoor

/- Walks: the reference's short. -/
namespace Go.Proofs.YtjgcjjbnnlnilaaGreatDoor
open Go.RowKit
set_option linter.unusedVariables false

/-- A call gives back a slice that holds n, and the int m. -/
def Ret2N (k : IntKind) (n m : Nat) (e : Ending) (w' : World) : Prop := ∃ v, e = .returned (.tuple #[v, .int k (m : Int)]) ∧ IsN k w' v n

set_option maxRecDepth 100000 in
set_option maxHeartbeats 4000000 in
theorem r1_short (w : World) (v : Value) (a d : Nat) (ha : IsN .i64 w v a) (hd0 : 0 < d) (hd1 : d < 1000000000) (hla : (limbs a).length ≤ 1000000) :
    Calls Tryz.prog 124 #[v, .int .i64 d] w fun e w' => Ret2N .i64 (a / d) (a % d) e w' ∧ Below w.heap.size w w' := by
  obtain ⟨a1, c1, rfl, h1, h2, h3⟩ := ha.openI
  have H3 := hid h3; clear h3 ha
  obtain ⟨n, ea⟩ : ∃ n, (limbs a).length = n := ⟨_, rfl⟩
  rw [ea] at h1 hla ⊢
  have HA := hid ea
  clear ea
  have hmk := fun W => make_limbs n (by omega) W
  have hdz : ((d : Int) == 0) = false := by simp; omega
  go_enter Tryz.func124, Tryz.ntmps124
  go_wp2_with fail
  clear hmk
  go_loopw [7, 8, 9] (fun rr ii nn wr => ∃ (j r : Nat) (t : Int) (o : List Nat), rr = .int .i64 r ∧ ii = .int .i64 t ∧ t = (j : Int) - 1 ∧ j ≤ n ∧ Hid (SmallI a d j r o) ∧ Hid (Arr .i64 3 wr w.heap.size o) ∧ Hid (Below w.heap.size w wr)) (fun _ ii _ _ => (intOf ii + 1).toNat)
  case atStart => exact ⟨n, 0, _, _, rfl, rfl, rfl, Nat.le_refl _, by have := SmallI.start (a := a) hd0; rw [HA.out] at this; exact this, Arr.made w .i64 3 n, (Below.refl _ _).alloc (Nat.le_refl _) _⟩
  case round =>
    obtain ⟨j, r, t, o, rfl, rfl, ht, hj, hS, hO, hB⟩ := hrel
    have hsz : Hid (o.length = n) := by rw [Hid, hS.out.len, HA.out]
    cases j with
    | zero =>
      obtain rfl : t = -1 := by omega
      clear ht
      have hv := hid hS.out.done
      have hr := hid (show Row wr (.slice (some ⟨w.heap.size, 0, none⟩) n n) (ints .i64 o) from by
        have := hO.out.row (n := n) (c := n) (by rw [hsz.out]; exact Nat.le_refl _) (Nat.le_refl _) (by unfold maxLen; omega)
        rwa [List.take_of_length_le (by rw [hsz.out]; exact Nat.le_refl _)] at this)
      go_wp2_with (go_at_call 107; refine (r1_trim _ _ o hS.out.sm hr.out).mono ?_; rintro e w1 ⟨⟨v1, rfl, hv1⟩, rfl⟩)
      go_ret2
      exact ⟨⟨v1, ret_tup (by rw [hv.out.2]), by rw [← hv.out.1]; exact hv1⟩, hB.out⟩
    | succ j =>
      obtain rfl : t = (j : Int) := by omega
      clear ht
      obtain ⟨x, hx⟩ : ∃ x, (limbs a)[j]? = some x := ⟨_, List.getElem?_eq_getElem (by rw [HA.out]; omega)⟩
      obtain ⟨g, og, rfl, hg, hc⟩ := H3.out _ x hx
      have d1 := (hB.out.cell (p := ⟨g, og + j, none⟩) hg).trans hc
      obtain ⟨z, hz⟩ : ∃ z, o[j]? = some z := ⟨_, List.getElem?_eq_getElem (by rw [hsz.out]; omega)⟩
      have d3 := hO.out.cell hz
      have d4 := hO.out.free j
      have HN := hid (hS.out.next hx)
      have hxl := (sm_limbs a).get hx
      have hrl := hS.out.rd
      clear hx hc hz
      go_wp2_with fail
      go_roundw
      case rel =>
        have e1 : (((r : Int) * 1000000000 + x) / d) = (((r * 1000000000 + x) / d : Nat) : Int) := by rw [Int.natCast_ediv]; rfl
        have e2 : (((r : Int) * 1000000000 + x) % d) = (((r * 1000000000 + x) % d : Nat) : Int) := by rw [Int.natCast_emod]; rfl
        rw [e1]
        exact ⟨j, _, _, _, by rw [e2], rfl, by omega, by omega, HN, hO.out.set j _, below_set hB.out (Nat.le_refl _) _⟩
      case measure => simp [intOf] <;> omega
end Go.Proofs.YtjgcjjbnnlnilaaGreatDoor

/- Walks: the reference's scaled. -/
namespace Go.Proofs.YtjgcjjbnnlnilaaGreatDoor
open Go.RowKit
set_option linter.unusedVariables false

/-- A call gives back a new array of one limb more, that holds n, and nothing else leads to it. -/
def RetArr (k : IntKind) (t : TypeId) (B n len : Nat) (e : Ending) (w' : World) : Prop := ∃ g o, e = .returned (.slice (some ⟨g, 0, none⟩) len len) ∧ B ≤ g ∧ Arr k t w' g o ∧ o.length = len ∧ Sm o ∧ val o = n

set_option maxRecDepth 100000 in
set_option maxHeartbeats 4000000 in
theorem r1_scaled (w : World) (v : Value) (a d : Nat) (ha : IsN .i64 w v a) (hd1 : d < 1000000000) (hla : (limbs a).length ≤ 1000000) :
    Calls Tryz.prog 125 #[v, .int .i64 d] w fun e w' => RetArr .i64 3 w.heap.size (a * d) ((limbs a).length + 1) e w' ∧ Below w.heap.size w w' := by
  obtain ⟨a1, c1, rfl, h1, h2, h3⟩ := ha.openI
  have H3 := hid h3; clear h3 ha
  obtain ⟨n, ea⟩ : ∃ n, (limbs a).length = n := ⟨_, rfl⟩
  rw [ea] at h1 hla ⊢
  have HA := hid ea
  clear ea
  have hmk : ∀ W : World, (Instr.makeSlice 77 (.int .i64 ((n : Int) + 1)) (.int .i64 ((n : Int) + 1))).run Tryz.prog W = .ok (.slice (some ⟨W.heap.size, 0, none⟩) (n + 1) (n + 1)) (W.alloc (.cells (madeCells #[.int .i64 0] (n + 1)) 3)) := fun W => by
    have := make_limbs (n + 1) (by omega) W
    rwa [Int.natCast_add] at this
  go_enter Tryz.func125, Tryz.ntmps125
  go_wp2_with fail
  clear hmk
  go_loopw [6, 7, 8] (fun cc ii nn wr => ∃ (i c : Nat) (o : List Nat), cc = .int .i64 c ∧ ii = .int .i64 i ∧ i ≤ n ∧ Hid (ScaleI a d i c o) ∧ Hid (Arr .i64 3 wr w.heap.size o) ∧ Hid (Below w.heap.size w wr)) (fun _ ii _ _ => n - (intOf ii).toNat)
  case atStart => exact ⟨0, 0, _, rfl, rfl, Nat.zero_le _, ScaleI.start a d, by rw [HA.out]; exact Arr.made w .i64 3 (n + 1), (Below.refl _ _).alloc (Nat.le_refl _) _⟩
  case round =>
    obtain ⟨i, c, o, rfl, rfl, hin, hS, hO, hB⟩ := hrel
    have hsz : Hid (o.length = n + 1) := by rw [Hid, hS.out.len, HA.out]
    by_cases hlt : i < n
    · obtain ⟨x, hx⟩ : ∃ x, (limbs a)[i]? = some x := ⟨_, List.getElem?_eq_getElem (by rw [HA.out]; exact hlt)⟩
      obtain ⟨g, og, rfl, hg, hc⟩ := H3.out _ x hx
      have d1 := (hB.out.cell (p := ⟨g, og + i, none⟩) hg).trans hc
      obtain ⟨z, hz⟩ : ∃ z, o[i]? = some z := ⟨_, List.getElem?_eq_getElem (by rw [hsz.out]; omega)⟩
      have d3 := hO.out.cell hz
      have d4 := hO.out.free i
      have HN := hid (hS.out.next hd1 hx)
      have hb1 := mul_bound (old := 0) (by omega) ((sm_limbs a).get hx) hd1 hS.out.c1
      have hcl := hS.out.c1
      clear hx hc hz
      have HP := hid (show ((x : Int) * (d : Int)) = ((x * d : Nat) : Int) from (Int.natCast_mul x d).symm)
      obtain ⟨p, hp⟩ : ∃ p, x * d = p := ⟨_, rfl⟩
      rw [hp] at hb1 HN HP
      have hp2 := hb1.2; clear hb1 hp
      have e5 : IntKind.i64.wrap ((x : Int) * (d : Int)) = (p : Int) := by rw [HP.out]; exact IntWalk.i64_in _ (by omega)
      have e5' : wrap64 ((x : Int) * (d : Int)) = (p : Int) := by rw [HP.out]; exact IntWalk.wrap64_in _ (by omega)
      go_wp2_with fail
      clear e5 e5'
      go_roundw
      case rel =>
        have hz : (((p : Int) + c) % 1000000000) = (((p + c) % 1000000000 : Nat) : Int) := by omega
        rw [hz]
        exact ⟨i + 1, (p + c) / 1000000000, _, by go_num, by go_num, by omega, HN, hO.out.set i _, below_set hB.out (Nat.le_refl _) _⟩
      case measure => simp [intOf] <;> omega
    · obtain rfl : i = n := by omega
      obtain ⟨z, hz⟩ : ∃ z, o[i]? = some z := ⟨_, List.getElem?_eq_getElem (by rw [hsz.out]; omega)⟩
      have d3 := hO.out.cell hz
      have d4 := hO.out.free i
      clear hz
      have hD := hid (show val (o.set i c) = a * d ∧ Sm (o.set i c) ∧ (o.set i c).length = i + 1 from by have := hS.out; rw [← HA.out] at this ⊢; exact this.done)
      go_wp2_with fail
      go_ret
      exact ⟨⟨w.heap.size, _, rfl, Nat.le_refl _, hO.out.set i c, hD.out.2.2, hD.out.2.1, hD.out.1⟩, below_set hB.out (Nat.le_refl _) _⟩
end Go.Proofs.YtjgcjjbnnlnilaaGreatDoor

/- Walks: the reference's step of the long division. -/
namespace Go.Proofs.YtjgcjjbnnlnilaaGreatDoor
open Go.RowKit
set_option linter.unusedVariables false

/-- What a step leaves: the quotient of the window comes back, the window holds the remainder, nothing else has turned. -/
def StepOut (us vs : List Nat) (gu j n : Nat) (w : World) (e : Ending) (w' : World) : Prop :=
  e = .returned (.int .i64 ((val ((us.drop j).take (n + 1)) / val vs : Nat) : Int)) ∧ ∃ o, WinOut us j n (val ((us.drop j).take (n + 1)) % val vs) o ∧ Arr .i64 3 w' gu o ∧ w.grownBy w' (some gu)

set_option maxRecDepth 100000 in
set_option maxHeartbeats 8000000 in
theorem r1_step (w : World) (gu j cu : Nat) (us : List Nat) (gv ov cv : Nat) (vs : List Nat) (n : Nat) (hS : StepIn us vs j n) (hU : Arr .i64 3 w gu us) (hV : Row w (.slice (some ⟨gv, ov, none⟩) n cv) (ints .i64 vs)) (hne : gv ≠ gu) :
    Calls Tryz.prog 126 #[.slice (some ⟨gu, j, none⟩) (n + 1) cu, .slice (some ⟨gv, ov, none⟩) n cv] w fun e w' => StepOut us vs gu j n w e w' := by
  have n2 := hS.n2; have nm := hS.nm; have lu := hS.lu; have um := hS.um
  have cv' : ∀ i, i < n → w.cell? ⟨gv, ov + i, none⟩ = some (.int .i64 (vs.getD i 0 : Nat)) := fun i hi => by
    obtain ⟨g, o, e, hg, hc⟩ := hV.at (ints_get (getD_some (l := vs) (i := i) (by rw [hS.lv]; exact hi)))
    simp at e
    obtain ⟨rfl, rfl⟩ := e
    exact hc
  have cu' : ∀ i, i ≤ n → w.cell? ⟨gu, j + i, none⟩ = some (.int .i64 (us.getD (j + i) 0 : Nat)) := fun i hi => hU.cell (getD_some (by omega))
  have hE := hid hS.est
  have a0 := cu' n (Nat.le_refl _)
  have a1 := cu' (n - 1) (by omega)
  have a2 := cu' (n - 2) (by omega)
  have b1 := cv' (n - 1) (by omega)
  have b2 := cv' (n - 2) (by omega)
  have CV := hid cv'; have CU := hid cu'; have HS := hid hS; have HU := hid hU
  clear cv' cu' hS hU hV
  obtain ⟨u0, hu0⟩ : ∃ x, us.getD (j + n) 0 = x := ⟨_, rfl⟩
  obtain ⟨u1, hu1⟩ : ∃ x, us.getD (j + (n - 1)) 0 = x := ⟨_, rfl⟩
  obtain ⟨u2, hu2⟩ : ∃ x, us.getD (j + (n - 2)) 0 = x := ⟨_, rfl⟩
  obtain ⟨v1, hv1⟩ : ∃ x, vs.getD (n - 1) 0 = x := ⟨_, rfl⟩
  obtain ⟨v2, hv2⟩ : ∃ x, vs.getD (n - 2) 0 = x := ⟨_, rfl⟩
  rw [hu0, hu1, hu2, hv1, hv2] at hE
  rw [hu0] at a0; rw [hu1] at a1; rw [hu2] at a2; rw [hv1] at b1; rw [hv2] at b2
  have HU0 := hid hu0; clear hu0 hu1 hu2 hv1 hv2
  have l0 := hE.out.b0; have l1 := hE.out.b1; have l2 := hE.out.b2; have l3 := hE.out.c1; have l4 := hE.out.c2; have l5 := hE.out.v0
  have dz : ((v1 : Int) == 0) = false := by simp; omega
  have f1 : (0 : Int) ≤ (n : Int) - 1 := by omega
  have f2 : (n : Int) - 1 < (n : Int) + 1 := by omega
  have f3 : (n : Int) - 1 < (n : Int) := by omega
  have f4 : (0 : Int) ≤ (n : Int) - 2 := by omega
  have f5 : (n : Int) - 2 < (n : Int) + 1 := by omega
  have f6 : (n : Int) - 2 < (n : Int) := by omega
  have f7 : (0 : Int) ≤ (n : Int) := by omega
  have f8 : (n : Int) < (n : Int) + 1 := by omega
  have e1 : IntKind.i64.wrap ((n : Int) - 1) = (n : Int) - 1 := IntWalk.i64_in _ (by omega)
  have e2 : IntKind.i64.wrap ((n : Int) - 2) = (n : Int) - 2 := IntWalk.i64_in _ (by omega)
  have e3 : ((n : Int) - 1).toNat = n - 1 := by omega
  have e4 : ((n : Int) - 2).toNat = n - 2 := by omega
  have e5 : IntKind.i64.wrap ((u0 : Int) * 1000000000) = (u0 : Int) * 1000000000 := IntWalk.i64_in _ (by omega)
  have e6 : IntKind.i64.wrap ((u0 : Int) * 1000000000 + u1) = (u0 : Int) * 1000000000 + u1 := IntWalk.i64_in _ (by omega)
  go_enter Tryz.func126, Tryz.ntmps126
  go_wp2_with fail
  go_quiet (fail)
  clear e5 e6
  go_wp2_with fail
  go_quiet (fail)
  go_upto_block 0 with (fail)
  rename_i nq1 nq2
  obtain ⟨V, hV⟩ : ∃ V, val vs = V := ⟨_, rfl⟩
  obtain ⟨U, hU⟩ : ∃ U, val ((us.drop j).take (n + 1)) = U := ⟨_, rfl⟩
  rw [hU, hV] at hE
  have HVU := hid (And.intro hU hV); clear hU hV
  go_cut [7] (fun gg wx => ∃ (G q : Nat), gg = .int .i64 G ∧ wx = w.drewN q ∧ G < 1000000000 ∧ Hid (U / V ≤ G ∧ G * V < U + V))
  case first =>
    go_wp2_with fail
    go_loopw [7, 8] (fun gg rr wr => ∃ G R q : Nat, gg = .int .i64 G ∧ rr = .int .i64 R ∧ wr = w.drewN q ∧ Hid (EstI U V u0 u1 v1 G R)) (fun gg _ _ => (intOf gg).toNat)
    case atStart =>
      exact ⟨_, _, _, by rw [Int.natCast_ediv]; rfl, by rw [Int.natCast_emod]; rfl, by rw [World.drewN_drewN], EstI.start hE.out⟩
    case round =>
      obtain ⟨G, R, q, rfl, rfl, rfl, hI⟩ := hrel
      have g2 := hI.out.g2; have r2 := hI.out.r2
      by_cases hR : R < 1000000000
      · have q1 : decide ((R : Int) < 1000000000) = true := by simp; omega
        by_cases hG : 1000000000 ≤ G
        · have q2 : decide ((1000000000 : Int) ≤ (G : Int)) = true := by simp; omega
          have HN := hid (hI.out.big hE.out hR hG)
          go_wp2_with fail
          go_big_quiet (fail)
          clear q1 q2
          go_wp2_with fail
          go_quiet (fail)
          go_wp2_with fail
          go_roundw
          case rel => exact ⟨G - 1, R + v1, _, by go_num, by go_num, by rw [World.drewN_drewN, World.drewN_drewN], HN⟩
          case measure => simp [intOf] <;> omega
        · have q2 : decide ((1000000000 : Int) ≤ (G : Int)) = false := by simp; omega
          obtain ⟨p, hp⟩ : ∃ p, G * v2 = p := ⟨_, rfl⟩
          have hpb : p ≤ 999999999 * 999999999 := by rw [← hp]; exact Nat.mul_le_mul (by omega) (by omega)
          have HPI := hid (show ((G : Int) * (v2 : Int)) = (p : Int) from by rw [← Int.natCast_mul, hp])
          by_cases hT : R * 1000000000 + u2 < p
          · have q3 : decide ((R : Int) * 1000000000 + u2 < (p : Int)) = true := by simp; omega
            have HN := hid (hI.out.less hE.out hR (by rw [hp]; exact hT))
            have hg0 := HN.out.2
            clear hp hT
            obtain ⟨x5, x6, x7⟩ : IntKind.i64.wrap ((G : Int) * (v2 : Int)) = (p : Int) ∧ IntKind.i64.wrap ((R : Int) * 1000000000) = (R : Int) * 1000000000 ∧ IntKind.i64.wrap ((R : Int) * 1000000000 + u2) = (R : Int) * 1000000000 + u2 := by
              refine ⟨by rw [HPI.out]; exact IntWalk.i64_in _ (by omega), IntWalk.i64_in _ (by omega), IntWalk.i64_in _ (by omega)⟩
            go_wp2_with fail
            go_big_quiet (fail)
            clear q1 q2 q3 x5 x6 x7
            go_wp2_with fail
            go_quiet (fail)
            go_wp2_with fail
            go_roundw
            case rel => exact ⟨G - 1, R + v1, _, by go_num, by go_num, by rw [World.drewN_drewN, World.drewN_drewN], HN.out.1⟩
            case measure => simp [intOf] <;> omega
          · have q3 : decide ((R : Int) * 1000000000 + u2 < (p : Int)) = false := by simp; omega
            have HD := hid (hI.out.done hE.out (.inr ⟨by omega, by rw [hp]; omega⟩))
            have HQ := hid hI.out.q
            clear hp hT
            obtain ⟨x5, x6, x7⟩ : IntKind.i64.wrap ((G : Int) * (v2 : Int)) = (p : Int) ∧ IntKind.i64.wrap ((R : Int) * 1000000000) = (R : Int) * 1000000000 ∧ IntKind.i64.wrap ((R : Int) * 1000000000 + u2) = (R : Int) * 1000000000 + u2 := by
              refine ⟨by rw [HPI.out]; exact IntWalk.i64_in _ (by omega), IntWalk.i64_in _ (by omega), IntWalk.i64_in _ (by omega)⟩
            go_wp2_with fail
            go_big_quiet (fail)
            clear q1 q2 q3 x5 x6 x7
            go_wp2_with fail
            go_meet
            exact ⟨G, _, rfl, by rw [World.drewN_drewN], HD.out.1, HQ.out, HD.out.2⟩
      · have q1 : decide ((R : Int) < 1000000000) = false := by simp; omega
        have HD := hid (hI.out.done hE.out (.inl (by omega)))
        have HQ := hid hI.out.q
        go_wp2_with fail
        go_big_quiet (fail)
        clear q1
        go_wp2_with fail
        go_meet
        exact ⟨G, _, rfl, by rw [World.drewN_drewN], HD.out.1, HQ.out, HD.out.2⟩
  case rest =>
    obtain ⟨G, q, rfl, rfl, hG, hQ⟩ := hcut
    have hE1 := hE
    clear a0 a1 a2 b1 b2 dz f1 f2 f3 f4 f5 f6 f7 f8 e1 e2 e3 e4 hE l0 l1 l2 l3 l4 l5
    go_wp2_with fail
    go_loopw [9, 10, 11, 12] (fun bb ii tt xx wr => ∃ (i c : Nat) (o : List Nat), bb = .int .i64 c ∧ ii = .int .i64 i ∧ i ≤ n ∧ Hid (MsubI us vs j n G i c o) ∧ Hid (Arr .i64 3 wr gu o) ∧ Hid (w.grownBy wr (some gu))) (fun _ ii _ _ _ => n - (intOf ii).toNat)
    case atStart => exact ⟨0, 0, us, rfl, rfl, Nat.zero_le _, MsubI.start HS.out.su, HU.out.drewN q, gb_drewN (World.grownBy.refl w _) q⟩
    case round =>
      obtain ⟨i, c, o, rfl, rfl, hin, hM, hO, hB⟩ := hrel
      have hol := hid hM.out.len
      have hcG := hM.out.c1
      by_cases hlt : i < n
      · have d1 := hO.out.cell (getD_some (l := o) (i := j + i) (by rw [hol.out]; omega))
        have d4 := hO.out.free (j + i)
        have d2 := gb_cell hB.out (CV.out i hlt) hne
        have hvl := HS.out.sv.getD i
        have hul := HS.out.su.getD (j + i)
        rw [getD_drop_eq hM.out.hi] at d1
        obtain ⟨T, M, z, c', hT, hM1, hz, hc', z1, z2, z3, z4, z5, z6, z7, z8⟩ := ref_msub hul hcG hG hvl
        have HN := hid (hM.out.next (by omega) lu z1 z2 z3)
        obtain ⟨ui, hui⟩ : ∃ x, us.getD (j + i) 0 = x := ⟨_, rfl⟩
        obtain ⟨vi, hvi⟩ : ∃ x, vs.getD i 0 = x := ⟨_, rfl⟩
        rw [hui] at d1 hul hT; rw [hvi] at d2 hvl hT
        clear hui hvi z3
        obtain ⟨p, hp⟩ : ∃ p, G * vi = p := ⟨_, rfl⟩
        have hpb : p ≤ 999999999 * 999999999 := by rw [← hp]; exact Nat.mul_le_mul (by omega) (by omega)
        have HPI := hid (show ((G : Int) * (vi : Int)) = (p : Int) from by rw [← Int.natCast_mul, hp])
        rw [hp] at hT
        have HT := hid hT; have HM1 := hid hM1; have HZ := hid hz; have HC := hid hc'
        clear hp hT hM1 hz hc'
        have f1 : (0 : Int) ≤ (i : Int) := by omega
        have f2 : (i : Int) < (n : Int) := by omega
        have f3 : (i : Int) < (n : Int) + 1 := by omega
        obtain ⟨x5, x6, x7⟩ : IntKind.i64.wrap ((G : Int) * (vi : Int)) = (p : Int) ∧ IntKind.i64.wrap ((ui : Int) - c) = (ui : Int) - c ∧ IntKind.i64.wrap ((ui : Int) - c - p) = T := by
          refine ⟨by rw [HPI.out]; exact IntWalk.i64_in _ (by omega), IntWalk.i64_in _ (by omega), by rw [HT.out]; exact IntWalk.i64_in _ (by omega)⟩
        go_wp2_with fail
        go_quiet (fail)
        clear x5 x6 x7
        have y1 := HM1.out; have y2 := HZ.out; have y3 := HC.out
        go_wp2_with fail
        clear y1 y2 y3
        go_roundw
        case rel => exact ⟨i + 1, c', _, by rw [HC.out], by go_num, by omega, HN, (hO.out.drewN _).set (j + i) z, gb_set (gb_drewN hB.out _) _ _⟩
        case measure => simp [intOf] <;> omega
      · obtain rfl : i = n := by omega
        have hg0 := getD_drop_eq hM.out.hi
        have d1 := hO.out.cell (getD_some (l := o) (i := j + i) (by rw [hol.out]; omega))
        have d4 := hO.out.free (j + i)
        rw [hg0, HU0.out] at d1
        have hV0 := hE1.out.pos
        have l0 := hE1.out.b0
        clear hg0
        by_cases hc : c ≤ u0
        · obtain ⟨r1, r2, r3⟩ := hM.out.fits lu HS.out.lv HS.out.sv HVU.out.1 HVU.out.2 HU0.out hQ.out.1 hV0 hc
          have R1 := hid r1; have R3 := hid r3
          subst r2
          clear r1 r3 hc
          go_wp2_with fail
          refine wp_loop_rounds 1 ?_
          rw [rounds_succ]
          go_wp2_with fail
          go_ret
          refine ⟨ret_int (by rw [HVU.out.1, HVU.out.2, ← R1.out]), _, by rw [HVU.out.1, HVU.out.2]; exact R3.out, hO.out.set (j + i) 0, gb_set hB.out _ _⟩
        · obtain ⟨hc1, hadd⟩ := hM.out.lacks lu HS.out.lv HS.out.sv HVU.out.1 HVU.out.2 HU0.out hQ.out.1 hQ.out.2 hV0 (by omega)
          have HADD := hid hadd
          have hsub : ((u0 : Int) - (c : Int)) = -1 := by omega
          have hcb : (c : Int) ≤ 1000000000 := by omega
          have HN := hid (hO.out.setN (j + i) (-1))
          have HG := hid (gb_set hB.out (j + i) (.int .i64 (-1)))
          clear hadd hc hc1
          go_wp2_with fail
          refine wp_loop_rounds 2 ?_
          rw [rounds_succ]
          clear hsub
          obtain ⟨wx, hwx⟩ : ∃ wx, wr.setCell ⟨gu, j + i, none⟩ (.int .i64 (-1)) = wx := ⟨_, rfl⟩
          rw [hwx] at HN HG ⊢
          clear hwx d1 d4
          have k1 := HN.out.self (m := j + i) (by rw [hol.out]; omega)
          go_wp2_with fail
          go_loopw [13, 14, 15] (fun cc ii tt wq => ∃ (y k : Nat) (p : List Nat), cc = .int .i64 k ∧ ii = .int .i64 y ∧ y ≤ i ∧ Hid (AddI o vs j y k p) ∧ Hid (ArrN .i64 3 wq gu p (j + i) (-1)) ∧ Hid (w.grownBy wq (some gu))) (fun _ ii _ _ => i - (intOf ii).toNat)
          case atStart => exact ⟨0, 0, o, rfl, rfl, Nat.zero_le _, AddI.start hM.out.sm, HN, HG⟩
          case round =>
            obtain ⟨y, k, p, rfl, rfl, hyi, hA, hP, hB2⟩ := hrel
            have hpl := hid (show p.length = us.length from by rw [hA.out.len, hol.out])
            by_cases hlt2 : y < i
            · have d1 := hP.out.cell (i := j + y) (by omega) (getD_some (l := p) (i := j + y) (by rw [hpl.out]; omega))
              have d4 := hP.out.free (j + y)
              have d2 := gb_cell hB2.out (CV.out y hlt2) hne
              rw [getD_drop_eq hA.out.hi] at d1
              have HN2 := hid (hA.out.next hM.out.sm HS.out.sv (by rw [hol.out]; omega))
              have hvl := HS.out.sv.getD y
              have hul := hM.out.sm.getD (j + y)
              have hk1 := hA.out.k1
              obtain ⟨ui, hui⟩ : ∃ x, o.getD (j + y) 0 = x := ⟨_, rfl⟩
              obtain ⟨vi, hvi⟩ : ∃ x, vs.getD y 0 = x := ⟨_, rfl⟩
              rw [hui] at d1 hul; rw [hvi] at d2 hvl; rw [hui, hvi] at HN2
              clear hui hvi
              have f1 : (0 : Int) ≤ (y : Int) := by omega
              have f2 : (y : Int) < (i : Int) := by omega
              have f3 : (y : Int) < (i : Int) + 1 := by omega
              have hkI : (k : Int) ≤ 1 := by omega
              obtain ⟨x5, x6⟩ : IntKind.i64.wrap ((ui : Int) + vi) = (ui : Int) + vi ∧ IntKind.i64.wrap ((ui : Int) + vi + k) = (ui : Int) + vi + k := by
                refine ⟨IntWalk.i64_in _ (by omega), IntWalk.i64_in _ (by omega)⟩
              go_wp2_with fail
              go_quiet (fail)
              clear x5 x6
              go_wp2_with fail
              go_roundw
              case rel =>
                have hz : (((ui : Int) + vi + k) % 1000000000) = (((ui + vi + k) % 1000000000 : Nat) : Int) := by omega
                rw [hz]
                exact ⟨y + 1, _, _, by go_num, by go_num, by omega, HN2, (hP.out.drewN _).set (by omega) _, gb_set (gb_drewN hB2.out _) _ _⟩
              case measure => simp [intOf] <;> omega
            · obtain rfl : y = i := by omega
              obtain ⟨r0, r1, r2, r3⟩ := HADD.out k p hA.out
              subst r0
              have R1 := hid r1; have R3 := hid r3
              have k1 := hP.out.self (m := j + y) (by rw [hpl.out]; omega)
              have k2 := hP.out.free (j + y)
              clear r1 r3
              go_wp2_with fail
              rw [rounds_succ]
              go_wp2_with fail
              go_ret
              refine ⟨ret_int (by rw [HVU.out.1, HVU.out.2, R1.out]; omega), _, by rw [HVU.out.1, HVU.out.2]; exact R3.out, hP.out.back 0, gb_set hB2.out _ _⟩
end Go.Proofs.YtjgcjjbnnlnilaaGreatDoor
