/- Texts that the proof rests on, merged: Q, Tx, QS, Pk3, Pk4, Pk5, Own1, Held, Held2, Pk6, Pk7, QW, Pk8, Pk9, L11, Pk10, PkI, Pk11, Fr1, Fr3. -/
import Derived.Test.YtpheklgnmbpobaaGreatDoorKr3
import Derived.IntWalk
import Derived.RangeFuncBox
import Derived.Scope
import Derived.Lib.SmallJoins
namespace Go.Proofs.YtpheklgnmbpobaaGreatDoor
open Go.RowKit
open Go.Lib (decDigits nDigits)
def sgn (m : Bool) (n : Nat) : Int := if m = true then -(n : Int) else n
theorem sgn_natAbs (m : Bool) (n : Nat) : (sgn m n).natAbs = n := by cases m <;> simp [sgn]
theorem sgn_zero (m : Bool) : sgn m 0 = 0 := by cases m <;> simp [sgn]
theorem sgn_neg {m : Bool} {n : Nat} (h : 0 < n) : decide (sgn m n < 0) = m := by cases m <;> simp [sgn] <;> omega
theorem sgn_of (z : Int) : sgn (decide (z < 0)) z.natAbs = z := by
  unfold sgn
  by_cases h : z < 0 <;> simp [h] <;> omega
def qmk (m : Bool) (n d : Nat) : Rat := mkRat (sgn m n) d
theorem sgn_div (m : Bool) {n g : Nat} (h : g ∣ n) : sgn m n / (g : Int) = sgn m (n / g) := by
  cases m
  · simp [sgn]
  · simp only [sgn, if_true]
    rw [Int.neg_ediv_of_dvd (Int.natCast_dvd_natCast.2 h)]
    simp
theorem qmk_num {m : Bool} {n d : Nat} (hd : 0 < d) : (qmk m n d).num = sgn m (n / Nat.gcd n d) := by
  unfold qmk
  rw [Rat.num_mkRat, if_neg (by omega), sgn_natAbs, Nat.gcd_comm, sgn_div m (Nat.gcd_dvd_left n d)]
theorem qmk_den {m : Bool} {n d : Nat} (hd : 0 < d) : (qmk m n d).den = d / Nat.gcd n d := by
  unfold qmk
  rw [Rat.den_mkRat, if_neg (by omega), sgn_natAbs, Nat.gcd_comm]
theorem qmk_zero (m : Bool) (d : Nat) : qmk m 0 d = 0 := by unfold qmk; rw [sgn_zero, Rat.zero_mkRat]
theorem qmk_self (q : Rat) : qmk (decide (q.num < 0)) q.num.natAbs q.den = q := by unfold qmk; rw [sgn_of, Rat.mkRat_self]
structure IsQ (k : IntKind) (w : World) (v : Value) (q : Rat) : Prop where
  ex : ∃ N D, v = .agg #[.bool (decide (q.num < 0)), N, D] ∧ IsN k w N q.num.natAbs ∧ IsN k w D q.den
theorem IsQ.call {k : IntKind} {w w' : World} {v : Value} {q : Rat} (h : IsQ k w v q) (hb : Below w.heap.size w w') : IsQ k w' v q := by
  obtain ⟨N, D, rfl, h1, h2⟩ := h.ex
  exact ⟨N, D, rfl, h1.call hb, h2.call hb⟩
theorem IsQ.mk' {k : IntKind} {w : World} {N D : Value} {m : Bool} {n d : Nat} (hn : 0 < n) (hd : 0 < d) (h1 : IsN k w N (n / Nat.gcd n d)) (h2 : IsN k w D (d / Nat.gcd n d)) : IsQ k w (.agg #[.bool m, N, D]) (qmk m n d) := by
  have hg : 0 < n / Nat.gcd n d := Nat.div_pos (Nat.gcd_le_left d hn) (Nat.gcd_pos_of_pos_left d hn)
  refine ⟨N, D, ?_, ?_, ?_⟩
  · rw [qmk_num hd, sgn_neg hg]
  · rw [qmk_num hd, sgn_natAbs]; exact h1
  · rw [qmk_den hd]; exact h2
theorem IsQ.zero_ {k : IntKind} {w : World} {N D : Value} (h1 : IsN k w N 0) (h2 : IsN k w D 1) : IsQ k w (.agg #[.bool false, N, D]) 0 := ⟨N, D, rfl, h1, h2⟩
def RetQ (k : IntKind) (q : Rat) (e : Ending) (w' : World) : Prop := ∃ v, e = .returned v ∧ IsQ k w' v q
end Go.Proofs.YtpheklgnmbpobaaGreatDoor
namespace Go.Proofs.YtpheklgnmbpobaaGreatDoor
open Go.RowKit
open Go.Lib (decDigits nDigits)
theorem numB_of {s : ByteArray} (h : fB s = true) : s = numB (bN s) := by
  have h1 := dec_of_form (formB_iff.1 h)
  apply ByteArray.ext
  show s.data = (decDigits (dv s.data.toList)).toArray
  rw [← h1]
theorem iD_plain {s : ByteArray} (h : iM s = false) : iD s = s := by
  unfold iM at h
  unfold iD Lib.trimPrefix
  rw [h]
  rfl
end Go.Proofs.YtpheklgnmbpobaaGreatDoor
namespace Go.Proofs.YtpheklgnmbpobaaGreatDoor
open Go.RowKit
open Go.Lib (decDigits nDigits)
def noSl (l : List UInt8) : Prop := ∀ b ∈ l, b ≠ 47
theorem ix_none : ∀ {l : List UInt8}, noSl l → Lib.index l [47] = -1
  | [], _ => rfl
  | b :: l, h => by
    have h1 : b ≠ 47 := h b (List.mem_cons_self ..)
    have h2 := ix_none (l := l) (fun x hx => h x (List.mem_cons_of_mem _ hx))
    have h3 : ((47 : UInt8) == b) = false := by rw [beq_eq_false_iff_ne]; exact fun e => h1 e.symm
    simp [Lib.index, List.isPrefixOf, h2, h3]
theorem ix_at : ∀ {l r : List UInt8}, noSl l → Lib.index (l ++ 47 :: r) [47] = l.length
  | [], r, _ => by simp [Lib.index, List.isPrefixOf]
  | b :: l, r, h => by
    have h1 : b ≠ 47 := h b (List.mem_cons_self ..)
    have h2 := ix_at (l := l) (r := r) (fun x hx => h x (List.mem_cons_of_mem _ hx))
    have h3 : ((47 : UInt8) == b) = false := by rw [beq_eq_false_iff_ne]; exact fun e => h1 e.symm
    have h4 : ((l.length : Int) == -1) = false := by rw [beq_eq_false_iff_ne]; omega
    simp only [List.cons_append, Lib.index, List.isPrefixOf, h3, h2, h4, Bool.false_and]
    simp
theorem cut_none {l : List UInt8} (h : noSl l) : Lib.cut l [47] = (l, [], false) := by
  unfold Lib.cut
  rw [if_neg (by rw [ix_none h]; decide)]
theorem cut_at {l r : List UInt8} (h : noSl l) : Lib.cut (l ++ 47 :: r) [47] = (l, r, true) := by
  unfold Lib.cut
  rw [if_pos (by rw [ix_at h]; omega), ix_at h]
  simp [List.drop_append]
theorem sl_cases : ∀ s : List UInt8, noSl s ∨ ∃ A B, noSl A ∧ s = A ++ 47 :: B
  | [] => .inl (fun b h => by cases h)
  | b :: l => by
    by_cases hb : b = 47
    · exact .inr ⟨[], l, fun b h => (by cases h), by rw [hb]; rfl⟩
    · rcases sl_cases l with h | ⟨A, B, hA, e⟩
      · exact .inl (fun x hx => by
          rcases List.mem_cons.1 hx with rfl | hx
          · exact hb
          · exact h x hx)
      · exact .inr ⟨b :: A, B, fun x hx => (by
          rcases List.mem_cons.1 hx with rfl | hx
          · exact hb
          · exact hA x hx), by rw [e]; rfl⟩
theorem noSl_dig {l : List UInt8} (h : allDig l) : noSl l := fun b hb e => by
  have := isDig_iff.1 (h b hb)
  rw [e] at this
  simp at this
def txB (m : Bool) (n d : Nat) : ByteArray := ⟨((if m = true then [45] else []) ++ (decDigits n ++ (if d = 1 then [] else 47 :: decDigits d))).toArray⟩
def txQ (q : Rat) : ByteArray := txB (decide (q.num < 0)) q.num.natAbs q.den
theorem ba_ext {a b : ByteArray} (h : a.data.toList = b.data.toList) : a = b := by
  apply ByteArray.ext
  exact Array.toList_inj.1 h
theorem txB_list (m : Bool) (n d : Nat) : (txB m n d).data.toList = (if m = true then [45] else []) ++ (decDigits n ++ (if d = 1 then [] else 47 :: decDigits d)) := by simp [txB]
theorem tx_head (m : Bool) (n : Nat) : noSl ((if m = true then [45] else []) ++ decDigits n) := by
  intro b hb
  rcases List.mem_append.1 hb with h | h
  · cases m <;> simp at h
    rw [h]; decide
  · exact noSl_dig (allDig_dec n) b h
theorem cut_tx (m : Bool) (n d : Nat) : Lib.cut (txB m n d).data.toList [47] = ((if m = true then [45] else []) ++ decDigits n, if d = 1 then [] else decDigits d, !decide (d = 1)) := by
  rw [txB_list, ← List.append_assoc]
  by_cases h : d = 1
  · rw [if_pos h, List.append_nil, cut_none (tx_head m n), if_pos h]
    simp [h]
  · rw [if_neg h, cut_at (tx_head m n), if_neg h]
    simp [h]
theorem cW_tx (m : Bool) (n d : Nat) : (cW (txB m n d)).data.toList = (if m = true then [45] else []) ++ decDigits n := by simp [cW, cut_tx]
theorem cB_tx (m : Bool) (n d : Nat) : (cB (txB m n d)).data.toList = if d = 1 then [] else decDigits d := by simp [cB, cut_tx]
theorem cS_tx (m : Bool) (n d : Nat) : cS (txB m n d) = !decide (d = 1) := by simp [cS, cut_tx]
theorem qD_tx (m : Bool) (n d : Nat) : qD (txB m n d) = numB d := by
  unfold qD
  rw [cS_tx]
  by_cases h : d = 1
  · rw [h]; rw [if_neg (by simp)]; unfold numB; rw [dec_one]
  · rw [if_pos (by simp [h])]
    apply ba_ext
    rw [cB_tx, if_neg h, numB_list]
theorem minus_dec (n : Nat) : List.isPrefixOf [(45 : UInt8)] (decDigits n) = false := by
  cases h : decDigits n with
  | nil => rfl
  | cons b l =>
    have := isDig_iff.1 (allDig_dec n b (by rw [h]; exact List.mem_cons_self ..))
    have h3 : ((45 : UInt8) == b) = false := by
      rw [beq_eq_false_iff_ne]
      rintro rfl
      simp at this
    simp [List.isPrefixOf, h3]
theorem iM_tx (m : Bool) (n d : Nat) : iM (cW (txB m n d)) = m := by
  unfold iM Lib.hasPrefix
  rw [cW_tx]
  cases m
  · simpa using minus_dec n
  · simp [List.isPrefixOf]
theorem iD_tx (m : Bool) (n d : Nat) : iD (cW (txB m n d)) = numB n := by
  apply ba_ext
  have h := iM_tx m n d
  unfold iM at h
  unfold iD Lib.trimPrefix
  rw [h, cW_tx, numB_list]
  cases m <;> simp
theorem bN_iD_tx (m : Bool) (n d : Nat) : bN (iD (cW (txB m n d))) = n := by rw [iD_tx, bN_num]
theorem bN_qD_tx (m : Bool) (n d : Nat) : bN (qD (txB m n d)) = d := by rw [qD_tx, bN_num]
theorem numB_ne {a b : Nat} (h : a ≠ b) : numB a ≠ numB b := fun e => h (by rw [← bN_num a, e, bN_num])
theorem numB_zero : numB 0 = ⟨#[48]⟩ := by unfold numB; rw [dec_zero]
theorem numB_one : numB 1 = ⟨#[49]⟩ := by unfold numB; rw [dec_one]
theorem fB_num (n : Nat) : fB (numB n) = true := by unfold fB; rw [numB_list]; exact formB_dec n
def vQ (s : ByteArray) : Rat := qmk (iM (cW s)) (bN (iD (cW s))) (bN (qD s))
theorem formZ {s : ByteArray} (h : fB s = true) (h0 : s ≠ ⟨#[48]⟩) : 0 < bN s := by
  rcases Nat.eq_zero_or_pos (bN s) with e | e
  · have := numB_of h
    rw [e, numB_zero] at this
    exact absurd this h0
  · exact e
theorem valid {s : ByteArray} (h : qE s = 0) : Nat.gcd (bN (iD (cW s))) (bN (qD s)) = 1 ∧ 0 < bN (qD s) ∧ (iM (cW s) = true → bN (iD (cW s)) ≠ 0) ∧ nDigits (bN (iD (cW s))) ≤ 4000 ∧ nDigits (bN (qD s)) ≤ 4000 ∧ s = txB (iM (cW s)) (bN (iD (cW s))) (bN (qD s)) := by
  obtain ⟨h1, h2, h3⟩ := qE_zero h
  have hW := iB_form (qB_whole h1)
  have hD := qB_below h1
  have eW := numB_of hW
  have eD := numB_of hD
  have hm : iM (cW s) = true → bN (iD (cW s)) ≠ 0 := by
    intro hm e
    have h4 := qB_whole h1
    unfold iB at h4
    rw [e, numB_zero] at eW
    rw [hm, eW] at h4
    simp at h4
  unfold qL at h2
  simp only [Bool.or_eq_false_iff, decide_eq_false_iff_not] at h2
  have l1 : nDigits (bN (iD (cW s))) ≤ 4000 := by
    have := h2.1
    rw [eW, numB_size] at this
    rw [eW, bN_num] at *
    omega
  have l2 : nDigits (bN (qD s)) ≤ 4000 := by
    have := h2.2
    rw [eD, numB_size] at this
    rw [eD, bN_num] at *
    omega
  have es : (cW s).data.toList = (if iM (cW s) = true then [45] else []) ++ decDigits (bN (iD (cW s))) := by
    have e : (iD (cW s)).data.toList = decDigits (bN (iD (cW s))) := by rw [eW, bN_num, numB_list]
    rw [← e]
    unfold iD Lib.trimPrefix
    cases hm2 : Lib.hasPrefix (cW s).data.toList [45]
    · have : iM (cW s) = false := hm2
      rw [this]
      simp
    · have : iM (cW s) = true := hm2
      rw [this]
      have hp : List.isPrefixOf [45] (cW s).data.toList = true := hm2
      obtain ⟨t, ht⟩ := List.isPrefixOf_iff_prefix.1 hp
      rw [← ht]
      simp
  refine ⟨?_, ?_, hm, l1, l2, ?_⟩
  · unfold qG at h3
    cases hS : cS s
    · have : qD s = numB 1 := by unfold qD; rw [hS, numB_one]; rfl
      rw [this, bN_num, Nat.gcd_one_right]
    · rw [hS] at h3
      simpa using h3
  · cases hS : cS s
    · have : qD s = numB 1 := by unfold qD; rw [hS, numB_one]; rfl
      rw [this, bN_num]; omega
    · unfold qB at h1
      rw [hS] at h1
      simp only [Bool.and_eq_true, Bool.or_eq_true, Bool.not_true, Bool.false_eq_true, false_or, decide_eq_true_eq] at h1
      have : qD s = cB s := by unfold qD; rw [if_pos hS]
      rw [this]
      exact formZ h1.2.1.1.2 h1.2.1.2
  · apply ba_ext
    rw [txB_list]
    rcases sl_cases s.data.toList with h4 | ⟨A, B, hA, e⟩
    · have hc := cut_none h4
      have hS : cS s = false := by unfold cS; rw [hc]
      have hq : bN (qD s) = 1 := by
        have : qD s = numB 1 := by unfold qD; rw [hS, numB_one]; rfl
        rw [this, bN_num]
      rw [hq, if_pos rfl, List.append_nil]
      have e1 : (cW s).data.toList = s.data.toList := by unfold cW; rw [hc]
      rw [← es, e1]
    · have hc := cut_at (r := B) hA
      rw [← e] at hc
      have hS : cS s = true := by unfold cS; rw [hc]
      have hB : qD s = cB s := by unfold qD; rw [if_pos hS]
      have e1 : (cW s).data.toList = A := by unfold cW; rw [hc]
      have e2 : (cB s).data.toList = B := by unfold cB; rw [hc]
      have e3 : B = decDigits (bN (qD s)) := by rw [← e2, ← hB, eD, bN_num, numB_list]
      have hne : bN (qD s) ≠ 1 := by
        intro hb
        unfold qB at h1
        rw [hS] at h1
        simp only [Bool.and_eq_true, Bool.or_eq_true, Bool.not_true, Bool.false_eq_true, false_or, decide_eq_true_eq] at h1
        refine h1.2.2 ?_
        rw [← hB, eD, hb, numB_one]
      rw [if_neg hne, ← e3, e, ← List.append_assoc, ← es, e1]
theorem qmk_ok {m : Bool} {n d : Nat} (hg : Nat.gcd n d = 1) (hd : 0 < d) (hm : m = true → n ≠ 0) : decide ((qmk m n d).num < 0) = m ∧ (qmk m n d).num.natAbs = n ∧ (qmk m n d).den = d := by
  have e1 := qmk_num (m := m) (n := n) hd
  have e2 := qmk_den (m := m) (n := n) hd
  rw [hg, Nat.div_one] at e1 e2
  refine ⟨?_, by rw [e1, sgn_natAbs], e2⟩
  rw [e1]
  rcases Nat.eq_zero_or_pos n with rfl | hn
  · cases m
    · rw [sgn_zero]; rfl
    · exact absurd rfl (hm rfl)
  · exact sgn_neg hn
theorem vQ_ok {s : ByteArray} (h : qE s = 0) : decide ((vQ s).num < 0) = iM (cW s) ∧ (vQ s).num.natAbs = bN (iD (cW s)) ∧ (vQ s).den = bN (qD s) := by
  obtain ⟨h1, h2, h3, -⟩ := valid h
  exact qmk_ok h1 h2 h3
def ovQ (q : Rat) : Prop := 4000 < nDigits q.num.natAbs ∨ 4000 < nDigits q.den
instance (q : Rat) : Decidable (ovQ q) := by unfold ovQ; infer_instance
theorem vQ_txQ (q : Rat) : vQ (txQ q) = q := by
  unfold vQ txQ
  rw [iM_tx, bN_iD_tx, bN_qD_tx, qmk_self]
def outB (q : Rat) : ByteArray := if ovQ q then ⟨#[]⟩ else txQ q
def outE (q : Rat) : Int := if ovQ q then 5 else 0
end Go.Proofs.YtpheklgnmbpobaaGreatDoor
namespace Go.Proofs.YtpheklgnmbpobaaGreatDoor
open Go.RowKit Go.Shelf
open Go.Lib (decDigits nDigits)
set_option linter.unusedVariables false
set_option linter.unusedSimpArgs false
def DecOk (F : Nat) (cs : Array Value) (f : Nat → Nat → Nat × Bool) (w : World) : Prop :=
  ∀ (W : World) (k u : Nat), Below w.heap.size w W → k < 2 ^ u → u ≤ 256 →
    Calls Tryz.prog F (#[.string (numB k), .string (numB (2 ^ u))] ++ cs) W fun e w' => e = .returned (.tuple #[.int .i64 ((f k (2 ^ u)).1 : Nat), .bool (f k (2 ^ u)).2]) ∧ Below W.heap.size W w'
structure PdI (f : Nat → Nat → Nat × Bool) (L : List UInt8) (k u : Nat) : Prop where
  le : u ≤ L.length
  lt : k < 2 ^ u
  eq : pdAt f L k (2 ^ u) u = pdr f 0 1 L
theorem PdI.start (f : Nat → Nat → Nat × Bool) (L : List UInt8) : PdI f L 0 0 := ⟨Nat.zero_le _, by decide, pdAt_start f L⟩
theorem PdI.next {f : Nat → Nat → Nat × Bool} {L : List UInt8} {k u : Nat} (h : PdI f L k u) (hn : (f k (2 ^ u)).2 = false) (hu : u < L.length) : PdI f L (k + k + (if L[u] = 49 then 1 else 0)) (u + 1) := by
  refine ⟨hu, ?_, ?_⟩
  · have := h.lt
    rw [Nat.pow_succ]; split <;> omega
  · rw [← h.eq, pdAt_next hn hu, Nat.pow_succ, Nat.mul_two]
theorem PdI.done {f : Nat → Nat → Nat × Bool} {L : List UInt8} {k u : Nat} (h : PdI f L k u) (hn : (f k (2 ^ u)).2 = true) : pdr f 0 1 L = (true, (f k (2 ^ u)).1, u) := by
  rw [← h.eq, pdAt_done hn]
theorem PdI.late {f : Nat → Nat → Nat × Bool} {L : List UInt8} {k u : Nat} (h : PdI f L k u) (hn : (f k (2 ^ u)).2 = false) (hu : u = L.length) : pdr f 0 1 L = (false, 0, L.length) := by
  subst hu
  rw [← h.eq, pdAt_late hn]
def dw3 (x : Bool × Nat × Nat) : Value := .agg #[.bool x.1, .int .i64 (x.2.1 : Nat), .int .i64 (x.2.2 : Nat)]
theorem two_nd {u : Nat} (h : u ≤ 300) : nDigits (2 ^ u) ≤ 100 := by
  refine nDigits_le (by omega) (Nat.lt_of_le_of_lt (Nat.pow_le_pow_right (by omega) h) ?_)
  decide +kernel
set_option maxRecDepth 100000 in
set_option maxHeartbeats 2000000 in
theorem p_draw (w : World) (b : ByteArray) (F : Nat) (cs : Array Value) (f : Nat → Nat → Nat × Bool) (hb : b.size ≤ 256) (hen : ∀ args w, (callFunc F args).run Tryz.prog w = .ok (.enter F args) w) (hF : DecOk F cs f w) (hL : Lay w) :
    Calls Tryz.prog 78 #[.string b, .func (.func F) #[] cs] w fun e w' => e = .returned (dw3 (pdr f 0 1 b.data.toList)) ∧ Below w.heap.size w w' := by
  have HF := fun W k u hb h1 h2 => hid (hF W k u hb h1 h2)
  have hPl := fun W a b h1 h2 h3 hW => hid (pk_plus W a b h1 h2 h3 hW)
  obtain ⟨L, hLL⟩ : ∃ L, b.data.toList = L := ⟨_, rfl⟩
  have hlen := hid (show L.length = b.size from by rw [← hLL]; simp)
  have hget := hid (fun (i : Nat) (h : i < b.size) => show L[i]? = some b[i] from by rw [← hLL]; exact byte_get h)
  rw [hLL]
  have HL := hid hL; have HB := hid hb
  clear hF hL hLL
  have e0 : (⟨#[48]⟩ : ByteArray) = numB 0 := numB_zero.symm
  have e1 : (⟨#[49]⟩ : ByteArray) = numB 1 := numB_one.symm
  have x0 := hid (Blk.new w #[.bool false, .int .i64 0, .int .i64 0] 33)
  have b0 := hid ((Below.refl w.heap.size w).alloc (Nat.le_refl _) (.cells #[.bool false, .int .i64 0, .int .i64 0] 33))
  have E0 := hid e0; have E1 := hid e1
  clear e0 e1
  go_enter Tryz.func78, Tryz.ntmps78
  go_wp2_with fail
  go_loopw [5, 6, 7] (fun kk tt uu wr => ∃ k u : Nat, kk = .string (numB k) ∧ tt = .string (numB (2 ^ u)) ∧ uu = .int .i64 u ∧ u ≤ b.size ∧ Hid (PdI f L k u) ∧ Hid (Blk wr w.heap.size #[.bool false, .int .i64 0, .int .i64 0] 33) ∧ Hid (Below w.heap.size w wr)) (fun kk tt uu wr => b.size - (intOf uu).toNat)
  case atStart => exact ⟨0, 0, by rw [← E0.out], by rw [Nat.pow_zero, ← E1.out], rfl, Nat.zero_le _, PdI.start f L, x0, b0⟩
  case round =>
    obtain ⟨k, u, rfl, rfl, rfl, hu, hI, k0, hB⟩ := hrel
    have HD := HF wr k u hB.out hI.out.lt (by have := HB.out; omega)
    obtain ⟨vv, hvv⟩ : ∃ x, (f k (2 ^ u)).1 = x := ⟨_, rfl⟩
    obtain ⟨bb, hbb⟩ : ∃ x, (f k (2 ^ u)).2 = x := ⟨_, rfl⟩
    rw [hvv, hbb] at HD
    have HVV := hid hvv; have HBB := hid hbb
    have hk1 := nDigits_mono (Nat.le_of_lt hI.out.lt)
    have hk2 := two_nd (u := u) (by have := HB.out; omega)
    have hk3 := two_nd (u := u + 1) (by have := HB.out; omega)
    have P1 := hPl
    clear hvv hbb
    obtain ⟨K, hK⟩ : ∃ x, numB k = x := ⟨_, rfl⟩
    obtain ⟨T, hT⟩ : ∃ x, numB (2 ^ u) = x := ⟨_, rfl⟩
    have HK := hid hK; have HT := hid hT
    have ND := hid (And.intro hk1 (And.intro hk2 hk3))
    rw [hK, hT] at HD ⊢
    clear hK hT hk1 hk2 hk3 P1
    go_wp2_with fail
    refine HD.out.mono ?_; rintro e w1 ⟨rfl, hb1⟩
    have y1 := hid (bnext hB.out hb1); have k1 := hid (k0.out.call hb1)
    clear hb1
    cases bb
    · by_cases hlt : u = b.size
      · have q0 : ((u : Int) == (b.size : Int)) = true := by rw [hlt]; simp
        have LT := hid (hI.out.late HBB.out (by rw [hlen.out]; exact hlt))
        have r0 := k1.out.cell 0
        have r1 := k1.out.cell 1
        have r2 := k1.out.cell 2
        have f0 := k1.out.free 0
        have f1 := k1.out.free 1
        have f2 := k1.out.free 2
        simp at r0 r1 r2
        have hub := hid hlt
        clear hlt
        go_wp2_with fail
        have s3 := ((k1.out.set 0 (.bool false)).set 1 (.int .i64 0)).set 2 (.int .i64 (u : Nat))
        have z0 := s3.cell 0
        have z1 := s3.cell 1
        have z2 := s3.cell 2
        simp at z0 z1 z2
        refine bodyPost_ret (v := .agg #[.bool false, .int .i64 0, .int .i64 (u : Nat)]) (by simp [results, Tryz.results78, go_sem, z0, z1, z2]) rfl ⟨by rw [LT.out, hlen.out, hub.out]; rfl, ?_⟩
        exact ((y1.out.setCell (Nat.le_refl _) _).setCell (Nat.le_refl _) _).setCell (Nat.le_refl _) _
      · have q0 : ((u : Int) == (b.size : Int)) = false := by rw [beq_eq_false_iff_ne]; omega
        have hub : u < b.size := by omega
        have NX := hid (hI.out.next HBB.out (by rw [hlen.out]; exact hub))
        have hg := hget.out u hub
        have hgl : L[u]'(by rw [hlen.out]; exact hub) = b[u] := by
          have := List.getElem?_eq_getElem (l := L) (i := u) (by rw [hlen.out]; exact hub)
          rw [hg] at this
          exact (Option.some.inj this).symm
        have HN2 := hid (show 2 ^ u + 2 ^ u = 2 ^ (u + 1) from by rw [Nat.pow_succ]; omega)
        have klt := hid hI.out.lt
        rw [hgl] at NX
        have R1 := fun W hW => hPl W k k (by have := ND.out; omega) (by have := ND.out; omega) (by
          have h1 := nDigits_mono (show k + k ≤ 2 ^ (u + 1) by rw [← HN2.out]; have := klt.out; omega)
          have := ND.out; omega) hW
        have R2 := fun W hW => hPl W (2 ^ u) (2 ^ u) (by have := ND.out; omega) (by have := ND.out; omega) (by rw [HN2.out]; have := ND.out; omega) hW
        have R3 := fun W hW => hPl W (k + k) 1 (by
          have h1 := nDigits_mono (show k + k ≤ 2 ^ (u + 1) by rw [← HN2.out]; have := klt.out; omega)
          have := ND.out; omega) (by rw [nDigits_one]; omega) (by
          have h1 := nDigits_mono (show k + k + 1 ≤ 2 ^ (u + 1) by rw [← HN2.out]; have := klt.out; omega)
          have := ND.out; omega) hW
        rw [HK.out] at R1
        rw [HT.out, HN2.out] at R2
        rw [← E1.out] at R3
        clear hlt hg hgl
        by_cases h1 : b[u] = 49
        · have q1 : ((b[u].toNat : Int) == 49) = true := by rw [h1]; rfl
          rw [if_pos h1] at NX
          clear h1
          go_wp2_with fail
          refine (R1 _ (HL.out.call y1.out)).out.mono ?_; rintro e w2 ⟨rfl, hb2⟩
          have y2 := hid (bnext y1.out hb2); have k2 := hid (k1.out.call hb2)
          clear hb2
          go_wp2_with fail
          refine (R2 _ (HL.out.call y2.out)).out.mono ?_; rintro e w3 ⟨rfl, hb3⟩
          have y3 := hid (bnext y2.out hb3); have k3 := hid (k2.out.call hb3)
          clear hb3
          go_wp2_with fail
          refine (R3 _ (HL.out.call y3.out)).out.mono ?_; rintro e w4 ⟨rfl, hb4⟩
          have y4 := hid (bnext y3.out hb4); have k4 := hid (k3.out.call hb4)
          clear hb4
          go_wp2_with fail
          go_roundw
          case rel => exact ⟨_, u + 1, rfl, rfl, by go_num, by omega, NX, k4, y4⟩
          case measure => simp [intOf] <;> omega
        · have q1 : ((b[u].toNat : Int) == 49) = false := by
            rw [beq_eq_false_iff_ne]
            intro e
            refine h1 ?_
            have : b[u].toNat = (49 : UInt8).toNat := by simp; omega
            exact UInt8.toNat_inj.1 this
          rw [if_neg h1] at NX
          clear h1
          go_wp2_with fail
          refine (R1 _ (HL.out.call y1.out)).out.mono ?_; rintro e w2 ⟨rfl, hb2⟩
          have y2 := hid (bnext y1.out hb2); have k2 := hid (k1.out.call hb2)
          clear hb2
          go_wp2_with fail
          refine (R2 _ (HL.out.call y2.out)).out.mono ?_; rintro e w3 ⟨rfl, hb3⟩
          have y3 := hid (bnext y2.out hb3); have k3 := hid (k2.out.call hb3)
          clear hb3
          go_wp2_with fail
          go_roundw
          case rel => exact ⟨_, u + 1, rfl, rfl, by go_num, by omega, NX, k3, y3⟩
          case measure => simp [intOf] <;> omega
    · have DN := hid (hI.out.done HBB.out)
      rw [HVV.out] at DN
      have r0 := k1.out.cell 0
      have r1 := k1.out.cell 1
      have r2 := k1.out.cell 2
      have f0 := k1.out.free 0
      have f1 := k1.out.free 1
      have f2 := k1.out.free 2
      simp at r0 r1 r2
      go_wp2_with fail
      have s3 := ((k1.out.set 0 (.bool true)).set 1 (.int .i64 (vv : Nat))).set 2 (.int .i64 (u : Nat))
      have z0 := s3.cell 0
      have z1 := s3.cell 1
      have z2 := s3.cell 2
      simp at z0 z1 z2
      refine bodyPost_ret (v := .agg #[.bool true, .int .i64 (vv : Nat), .int .i64 (u : Nat)]) (by simp [results, Tryz.results78, go_sem, z0, z1, z2]) rfl ⟨by rw [DN.out]; rfl, ?_⟩
      exact ((y1.out.setCell (Nat.le_refl _) _).setCell (Nat.le_refl _) _).setCell (Nat.le_refl _) _
end Go.Proofs.YtpheklgnmbpobaaGreatDoor
namespace Go.Proofs.YtpheklgnmbpobaaGreatDoor
open Go.RowKit Go.Shelf
open Go.Lib (decDigits nDigits)
set_option linter.unusedVariables false
set_option linter.unusedSimpArgs false
def nzB (b : ByteArray) : Bool := decide (b ≠ ⟨#[48]⟩)
theorem p_nz (w : World) (b : ByteArray) : Calls Tryz.prog 120 #[.string b] w fun e w' => e = .returned (.bool (nzB b)) ∧ w = w' := by
  by_cases h : b = ⟨#[48]⟩
  · subst h
    go_enter Tryz.func120, Tryz.ntmps120
    go_wp2_with fail
    go_ret
    exact ⟨rfl, rfl⟩
  · have i1 := ne_lit (l := [48]) h
    have hn := hid (show nzB b = true from by simp [nzB, h])
    rw [hn.out]
    clear h
    go_enter Tryz.func120, Tryz.ntmps120
    go_wp2_with fail
    go_ret
    exact ⟨rfl, rfl⟩
theorem Row.openS {w : World} {v : Value} {l : List ByteArray} (h : Row w v (strs l)) : ∃ a c, v = .slice a l.length c ∧ l.length ≤ c ∧ c ≤ 9223372036854775807 ∧ ∀ (i : Nat) (x : ByteArray), l[i]? = some x → ∃ g o, a = some ⟨g, o, none⟩ ∧ g < w.heap.size ∧ w.cell? ⟨g, o + i, none⟩ = some (.string x) := by
  obtain ⟨a, c, rfl, h1, h2, h3⟩ := h.ex
  rw [strs_length] at *
  exact ⟨a, c, rfl, h1, by unfold maxLen at h2; omega, fun i x hx => h3 i _ (strs_get hx)⟩
def IdxOut (l : List ByteArray) (e : Ending) : Prop := ∃ z : Int, e = .returned (.int .i64 z) ∧ (0 ≤ z ↔ l.any nzB = true)
set_option maxRecDepth 100000 in
set_option maxHeartbeats 1000000 in
theorem p_index (w : World) (v : Value) (l : List ByteArray) (h : Row w v (strs l)) : Calls Tryz.prog 155 #[v, .func (.func 120) #[] #[]] w fun e w' =>
    IdxOut l e ∧ w = w' := by
  obtain ⟨a, c, rfl, h1, h2, h3⟩ := h.openS
  have e91 : ∀ args w, (callFunc 120 args).run Tryz.prog w = .ok (.enter 120 args) w := enters_of Tryz.func120 (by kernel_rfl) rfl
  obtain ⟨n, hn⟩ : ∃ n, l.length = n := ⟨_, rfl⟩
  rw [hn] at h1 ⊢
  have H3 := hid h3; have HN := hid hn
  clear h h3 hn
  go_enter Tryz.func155, Tryz.ntmps155
  go_wp2_with fail
  go_loop [8] (fun ii => ∃ i : Nat, ii = .int .i64 i ∧ i ≤ n ∧ Hid (∀ (j : Nat) (b : ByteArray), j < i → l[j]? = some b → nzB b = false)) (fun ii => n - (intOf ii).toNat)
  case atStart => exact ⟨0, rfl, Nat.zero_le _, fun j b hj => absurd hj (by omega)⟩
  case round =>
    obtain ⟨i, rfl, hi, hI⟩ := hrel
    by_cases hlt : i < n
    · obtain ⟨x, hx⟩ : ∃ x, l[i]? = some x := ⟨_, List.getElem?_eq_getElem (by rw [HN.out]; exact hlt)⟩
      obtain ⟨g, o, rfl, hg, hc⟩ := H3.out i x hx
      obtain ⟨z, hz⟩ : ∃ z, nzB x = z := ⟨_, rfl⟩
      have HX := hid hx; have HZ := hid hz
      have b1 : (0 : Int) ≤ (i : Int) := by omega
      have b2 : (i : Int) < (n : Int) := by omega
      have wi : IntKind.i64.wrap ((i : Int) + 1) = (i : Int) + 1 := by rw [IntWalk.i64_in _ ⟨by omega, by omega⟩]
      have PN := fun W => hid (p_nz W x)
      rw [hz] at PN
      clear hx hz
      go_wp2_with fail
      refine (PN _).out.mono ?_; rintro e w1 ⟨rfl, rfl⟩
      cases z
      · go_wp2_with fail
        go_round
        case rel => exact ⟨i + 1, rfl, by omega, fun j b hj hjb => by
          by_cases e : j = i
          · subst e; rw [HX.out] at hjb; cases hjb; exact HZ.out
          · exact hI.out j b (by omega) hjb⟩
        case measure => simp [intOf] <;> omega
      · go_wp2_with fail
        go_ret
        exact ⟨⟨i, rfl, ⟨fun _ => List.any_eq_true.2 ⟨x, List.mem_of_getElem? HX.out, HZ.out⟩, fun _ => by omega⟩⟩, rfl⟩
    · obtain rfl : i = n := by omega
      go_wp2_with fail
      go_ret
      refine ⟨⟨-1, rfl, ⟨fun h => absurd h (by decide), fun h => ?_⟩⟩, rfl⟩
      obtain ⟨x, hx, hz⟩ := List.any_eq_true.1 h
      obtain ⟨j, hj, rfl⟩ := List.getElem_of_mem hx
      have := hI.out j _ (by rw [← HN.out]; exact hj) (List.getElem?_eq_getElem hj)
      rw [this] at hz
      cases hz
set_option maxRecDepth 100000 in
set_option maxHeartbeats 1000000 in
theorem p_contains (w : World) (v : Value) (l : List ByteArray) (h : Row w v (strs l)) : Calls Tryz.prog 119 #[v, .func (.func 120) #[] #[]] w fun e w' =>
    e = .returned (.bool (l.any nzB)) ∧ w = w' := by
  have PI := hid (p_index w v l h)
  obtain ⟨a, c, rfl, -⟩ := h.openS
  obtain ⟨n, hn⟩ : ∃ n, l.length = n := ⟨_, rfl⟩
  rw [hn] at PI ⊢
  clear h hn
  obtain ⟨b, hb⟩ : ∃ b, l.any nzB = b := ⟨_, rfl⟩
  have HB := hid hb
  rw [hb]
  clear hb
  go_enter Tryz.func119, Tryz.ntmps119
  go_wp2_with fail
  refine PI.out.mono ?_; rintro e w1 ⟨⟨z, rfl, hz⟩, rfl⟩
  rw [HB.out] at hz
  have q : decide (0 ≤ z) = b := by
    rw [Bool.eq_iff_iff, decide_eq_true_iff]
    exact hz
  clear hz
  go_wp2_with fail
  go_ret
  first | exact ⟨by rw [q], rfl⟩ | exact ⟨rfl, rfl⟩
theorem wtE_at : ∀ {l : List ByteArray} {i : Nat}, (∀ (j : Nat) (b : ByteArray), j < i → l[j]? = some b → errN b.data.toList = 0 ∧ b.size ≤ 3800) → wtE l = wtE (l.drop i)
  | [], i, _ => by simp [wtE]
  | b :: r, 0, _ => rfl
  | b :: r, i + 1, h => by
    obtain ⟨h1, h2⟩ := h 0 b (by omega) rfl
    have h3 := wtE_at (l := r) (i := i) (fun j c hj hc => h (j + 1) c (by omega) (by simpa using hc))
    rw [wtE, if_neg (by simp [h1]), if_neg (by omega), h3]
    rfl
set_option maxRecDepth 100000 in
set_option maxHeartbeats 2000000 in
theorem p_check (w : World) (v : Value) (l : List ByteArray) (h : Row w v (strs l)) (hsz : ∀ b ∈ l, b.size ≤ 1000000) :
    Calls Tryz.prog 70 #[v] w fun e w' => e = .returned (.int .i64 (wsE l)) ∧ Below w.heap.size w w' := by
  have HR := hid h
  obtain ⟨a, c, rfl, h1, h2, h3⟩ := h.openS
  obtain ⟨n, hn⟩ : ∃ n, l.length = n := ⟨_, rfl⟩
  unfold wsE
  rw [hn] at h1 HR ⊢
  by_cases hlen : n = 0 ∨ 64 < n
  · rw [if_pos hlen]
    clear h HR h3 hn
    rcases hlen with h0 | h64
    · subst h0
      go_enter Tryz.func70, Tryz.ntmps70
      go_wp2_with fail
      go_ret
      exact ⟨rfl, Below.refl _ _⟩
    · have q0 : ((n : Int) == 0) = false := by rw [beq_eq_false_iff_ne]; omega
      have q1 : decide ((64 : Int) < (n : Int)) = true := by simp; omega
      clear h64
      go_enter Tryz.func70, Tryz.ntmps70
      go_wp2_with fail
      go_ret
      exact ⟨rfl, Below.refl _ _⟩
  · rw [if_neg hlen]
    have q0 : ((n : Int) == 0) = false := by rw [beq_eq_false_iff_ne]; omega
    have q1 : decide ((64 : Int) < (n : Int)) = false := by simp; omega
    have hn64 : n ≤ 64 := by omega
    have H3 := hid h3; have HN := hid hn; have HSZ := hid hsz
    obtain ⟨X, hX⟩ : ∃ X : Int, (if wtE l ≠ 0 then wtE l else if l.any nzB = true then 0 else 6) = X := ⟨_, rfl⟩
    have HX := hid hX
    have hXX : (if wtE l ≠ 0 then wtE l else if l.any (fun b => decide (b ≠ ⟨#[48]⟩)) = true then 0 else 6) = X := hX
    rw [hXX]
    clear h h3 hn hlen hX hXX hsz
    go_enter Tryz.func70, Tryz.ntmps70
    go_wp2_with fail
    clear q0 q1
    go_loopw [16] (fun ii wr => ∃ i : Nat, ii = .int .i64 i ∧ i ≤ n ∧ Hid (∀ (j : Nat) (b : ByteArray), j < i → l[j]? = some b → errN b.data.toList = 0 ∧ b.size ≤ 3800) ∧ Hid (Below w.heap.size w wr)) (fun ii wr => n - (intOf ii).toNat)
    case atStart => exact ⟨0, rfl, Nat.zero_le _, fun j b hj => absurd hj (by omega), Below.refl _ _⟩
    case round =>
      obtain ⟨i, rfl, hi, hI, hB⟩ := hrel
      by_cases hlt : i < n
      · obtain ⟨x, hx⟩ : ∃ x, l[i]? = some x := ⟨_, List.getElem?_eq_getElem (by rw [HN.out]; exact hlt)⟩
        obtain ⟨g, o, rfl, hg, hc⟩ := H3.out i x hx
        have d0 := (hB.out.cell (p := ⟨g, o + i, none⟩) hg).trans hc
        have b1 : (0 : Int) ≤ (i : Int) := by omega
        have b2 : (i : Int) < (n : Int) := by omega
        have wi : IntKind.i64.wrap ((i : Int) + 1) = (i : Int) + 1 := by rw [IntWalk.i64_in _ ⟨by omega, by omega⟩]
        have PN := fun W => hid (n_Check W x (Nat.le_trans (HSZ.out x (List.mem_of_getElem? hx)) (by omega)))
        obtain ⟨y, hy⟩ : ∃ y, errN x.data.toList = y := ⟨_, rfl⟩
        rw [hy] at PN
        have HXX := hid hx; have HY := hid hy
        have hdrop : l.drop i = x :: l.drop (i + 1) := by
          have hil : i < l.length := by rw [HN.out]; exact hlt
          rw [List.drop_eq_getElem_cons hil]
          have := List.getElem?_eq_getElem hil
          rw [hx] at this
          rw [Option.some.inj this]
        have HD := hid hdrop
        clear hx hy hc hdrop
        by_cases hy0 : y = 0
        · subst hy0
          by_cases hl : 3800 < x.size
          · have q2 : decide ((3800 : Int) < (x.size : Int)) = true := by simp; omega
            have HE : Hid (X = 5) := by
              show X = 5
              have : wtE l = 5 := by rw [wtE_at hI.out, HD.out, wtE, if_neg (by simp [HY.out]), if_pos hl]
              rw [← HX.out, this]
              rfl
            clear hl
            go_wp2_with fail
            refine (PN _).out.mono ?_; rintro e w1 ⟨rfl, hb1⟩
            have y1 := hid (bnext hB.out hb1); clear hb1
            go_wp2_with fail
            go_ret
            exact ⟨by rw [HE.out]; rfl, y1.out⟩
          · have q2 : decide ((3800 : Int) < (x.size : Int)) = false := by simp; omega
            have hl' := hid (show x.size ≤ 3800 from by omega)
            clear hl
            go_wp2_with fail
            refine (PN _).out.mono ?_; rintro e w1 ⟨rfl, hb1⟩
            have y1 := hid (bnext hB.out hb1); clear hb1
            go_wp2_with fail
            go_roundw
            case rel => exact ⟨i + 1, rfl, by omega, fun j b hj hjb => by
              by_cases e : j = i
              · subst e; rw [HXX.out] at hjb; cases hjb; exact ⟨HY.out, hl'.out⟩
              · exact hI.out j b (by omega) hjb, y1⟩
            case measure => simp [intOf] <;> omega
        · have q2 : (y != 0) = true := by simpa using hy0
          have HE : Hid (X = y) := by
            show X = y
            have : wtE l = y := by rw [wtE_at hI.out, HD.out, wtE, if_pos (by rw [HY.out]; exact hy0), HY.out]
            rw [← HX.out, this, if_pos hy0]
          clear hy0
          go_wp2_with fail
          refine (PN _).out.mono ?_; rintro e w1 ⟨rfl, hb1⟩
          have y1 := hid (bnext hB.out hb1); clear hb1
          go_wp2_with fail
          go_ret
          exact ⟨by rw [HE.out]; rfl, y1.out⟩
      · obtain rfl : i = n := by omega
        have hw : wtE l = 0 := by
          rw [wtE_at hI.out, ← HN.out, List.drop_length]
          rfl
        have PC := fun W (hW : Below w.heap.size w W) => hid (p_contains W _ l (HR.out.call hW))
        obtain ⟨z, hz⟩ : ∃ z, l.any nzB = z := ⟨_, rfl⟩
        have HE : Hid (X = if z = true then 0 else 6) := by
          show X = _
          rw [← HX.out, hw, hz]
          rfl
        simp only [hz] at PC
        clear hw hz
        go_wp2_with fail
        refine (PC _ hB.out).out.mono ?_; rintro e w1 ⟨rfl, rfl⟩
        cases z
        · go_wp2_with fail
          go_ret
          exact ⟨by rw [HE.out]; rfl, hB.out⟩
        · go_wp2_with fail
          go_ret
          exact ⟨by rw [HE.out]; rfl, hB.out⟩
end Go.Proofs.YtpheklgnmbpobaaGreatDoor
namespace Go.Proofs.YtpheklgnmbpobaaGreatDoor
open Go.RowKit Go.Shelf
open Go.Lib (decDigits nDigits)
set_option linter.unusedVariables false
set_option linter.unusedSimpArgs false
attribute [local go_sem] Oper.semAt_some
def scOk (ws : List Nat) (p : List (ByteArray × ByteArray)) (x : ByteArray × ByteArray) : Prop := p.length < ws.length ∧ x.1 = numB (pre ws p.length) ∧ ∃ c, ws[p.length]? = some c ∧ x.2 = numB c
structure WsOk (ws : List Nat) : Prop where
  len : ws.length ≤ 64
  dig : ∀ x ∈ ws, nDigits x ≤ 3800
theorem WsOk.sum {ws : List Nat} (h : WsOk ws) : nDigits ws.sum ≤ 3802 := nd_sum h.dig (by have := h.len; omega)
theorem WsOk.pre {ws : List Nat} (h : WsOk ws) (i : Nat) : nDigits (pre ws i) ≤ 3802 := nd_pre i h.sum
set_option maxRecDepth 100000 in
set_option maxHeartbeats 2000000 in
theorem scan_feeds {Kp : World → World → Prop} (n : Nat) (hn : 1 ≤ n) (w : World) (bb : Nat) (v : Value) (ws : List Nat) (hws : WsOk ws) (hKr : ∀ W, Kp W W) (hKt : ∀ {A B C : World}, Kp A B → Kp B C → Kp A C)
    (hread : ∀ W1 W2, Below w.heap.size w W1 → Kp W1 W2 → W2.cell? ⟨bb, 0, none⟩ = some v ∧ Row W2 v (strs (ws.map numB)) ∧ Lay W2) (hKb : ∀ W1 W2, Below W1.heap.size W1 W2 → Kp W1 W2) :
    Feeds n Tryz.prog 156 #[.pointer (some ⟨bb, 0, none⟩)] (fun x : ByteArray × ByteArray => #[.string x.1, .string x.2]) Kp (scOk ws) (fun xs => xs.length = ws.length) (fun _ => True) w := by
  intro l J Jx W hW hJ hJx hY h0
  have HR := hid hread; have HY := hid hY; have HW := hid hW; have HJ := hid hJ; have HJx := hid hJx
  have HKr := hid hKr; have HKt : Hid (∀ A B C : World, Kp A B → Kp B C → Kp A C) := fun A B C h k => hKt h k
  have HKb := hid hKb
  have HWS := hid hws
  have e0 : (⟨#[48]⟩ : ByteArray) = numB 0 := numB_zero.symm
  have E0 := hid e0
  obtain ⟨c0, r0, -⟩ := hread W W hW (hKr W)
  obtain ⟨a, c, rfl, q1, q2, -⟩ := r0.openS
  obtain ⟨N, hN⟩ : ∃ N, (ws.map numB).length = N := ⟨_, rfl⟩
  have HN := hid (show ws.length = N from by rw [← hN]; simp)
  rw [hN] at HR c0 q1
  clear hread hY hW hJ hJx hKr hKt hKb hws r0 hN e0
  refine callsIn_of_wp Tryz.func156 rfl trivial ?_ rfl
  simp only [Tryz.ntmps156, List.size_toArray, List.length_cons, List.length_nil, Nat.reduceAdd, Nat.reduceSub, Array.replicate_succ, Array.replicate_zero, List.push_toArray, List.append_toArray, List.nil_append, List.cons_append]
  gi_wp2
  gi_loopw [3, 8] (fun s ii wr => ∃ p : List (ByteArray × ByteArray), s = .string (numB (pre ws p.length)) ∧ ii = .int .i64 (p.length : Nat) ∧ p.length ≤ N ∧ Hid (J p wr) ∧ Hid (Kp W wr)) (fun s ii wr => N - (intOf ii).toNat)
  case atStart => exact ⟨[], by rw [List.length_nil, pre_zero, ← E0.out], rfl, Nat.zero_le _, h0, HKr.out W⟩
  case round =>
    obtain ⟨p, rfl, rfl, hp, hJ, hK⟩ := hrel
    obtain ⟨i, hi⟩ : ∃ i, p.length = i := ⟨_, rfl⟩
    have HI := hid hi
    rw [hi] at hp ⊢
    clear hi
    by_cases hlt : i < N
    · obtain ⟨x, hx⟩ : ∃ x, ws[i]? = some x := ⟨_, List.getElem?_eq_getElem (by rw [HN.out]; exact hlt)⟩
      obtain ⟨-, hrow, hLay⟩ := HR.out W wr HW.out hK.out
      obtain ⟨a', c', e, -, -, hcell⟩ := hrow.openS
      simp only [Value.slice.injEq] at e
      obtain ⟨rfl, -, rfl⟩ := e
      obtain ⟨g, o, rfl, hg, hc⟩ := hcell i (numB x) (by simp [hx])
      have HX := hid hx; have HLay := hid hLay
      have b1 : (0 : Int) ≤ (i : Int) := by omega
      have b2 : (i : Int) < (N : Int) := by omega
      have wi : IntKind.i64.wrap ((i : Int) + 1) = (i : Int) + 1 := by rw [IntWalk.i64_in _ ⟨by omega, by omega⟩]
      have n1 := HWS.out.pre i
      have n2 := HWS.out.pre (i + 1)
      have n3 := HWS.out.dig x (List.mem_of_getElem? hx)
      rw [pre_succ hx] at n2
      have PL := fun V hV => hid (pk_plus V (pre ws i) x (by omega) (by omega) (by omega) hV)
      rw [← pre_succ hx] at PL
      obtain ⟨S0, hS0⟩ : ∃ s, numB (pre ws i) = s := ⟨_, rfl⟩
      obtain ⟨X0, hX0⟩ : ∃ s, numB x = s := ⟨_, rfl⟩
      have HS0 := hid hS0; have HX0 := hid hX0
      rw [hX0] at hc
      rw [hS0, hX0] at PL
      rw [hS0]
      clear hx hrow hLay hcell n1 n2 n3 hS0 hX0
      obtain ⟨fn, tmps, assign, body, hy, hRR⟩ := HY.out p (S0, X0) wr ⟨by rw [HI.out, HN.out]; exact hlt, by rw [HI.out, HS0.out], x, by rw [HI.out]; exact HX.out, HX0.out.symm⟩ hJ.out
      dsimp only at hy
      have HYR := hid hRR
      clear hRR
      gi_wp2_with fail
      refine HYR.out.mono ?_
      rintro e W3 (⟨rfl, hJ3, hk3⟩ | ⟨rfl, hJx3⟩)
      · have HJ3 := hid hJ3; have HK3 := hid (HKt.out _ _ _ hK.out hk3)
        have hLay3 := (HR.out W W3 HW.out HK3.out).2.2
        have HLay3 := hid hLay3
        clear hJ3 hk3 hLay3 hy
        gi_wp2_with (refine ⟨trivial, ?_⟩; gi_at_call 83; refine (callsIn_wide.2 (PL _ HLay3.out).out).mono ?_; rintro e W4 ⟨rfl, hb4⟩)
        have HJ4 : Hid (J (p ++ [(S0, X0)]) W4) := HJ.out _ W3 W4 none HJ3.out ⟨hb4.os, hb4.tape, hb4.output, hb4.size, fun k hk _ => hb4.block k hk⟩ (fun r e => by cases e)
        have HK4 := hid (HKt.out _ _ _ HK3.out (HKb.out _ _ hb4))
        clear hb4
        gi_wp2_with fail
        go_roundw
        case rel => exact ⟨p ++ [(S0, X0)], by rw [List.length_append, List.length_singleton, HI.out], by rw [List.length_append, List.length_singleton, HI.out]; rfl, by rw [List.length_append, List.length_singleton, HI.out]; omega, HJ4, HK4⟩
        case measure => simp [intOf] <;> omega
      · clear hy
        gi_wp2_with fail
        refine bodyPost_ret (results_none rfl _ _ _) rfl ?_
        exact ⟨⟨_, rfl⟩, .inr ⟨_, trivial, hJx3⟩⟩
    · obtain rfl : i = N := by omega
      gi_wp2_with fail
      refine bodyPost_end (results_none rfl _ _ _) rfl ?_
      exact ⟨⟨_, rfl⟩, .inl ⟨p, by rw [HI.out, HN.out], hJ.out⟩⟩
end Go.Proofs.YtpheklgnmbpobaaGreatDoor
namespace Go.Proofs.YtpheklgnmbpobaaGreatDoor
open Go.RowKit
set_option linter.unusedVariables false
set_option linter.unusedSimpArgs false
attribute [local go_sem] Oper.semAt_some
theorem own_set {W : World} {base : Nat} {e : TypeId} {g n cap : Nat} {xs : List Value} (h : W.ownsRow base e 1 (.slice (some ⟨g, 0, none⟩) n cap) n xs) (i : Nat) (x : Value) : (W.setCell ⟨g, i, none⟩ x).ownsRow base e 1 (.slice (some ⟨g, 0, none⟩) n cap) n (xs.set i x) := by
  rcases h.2 with ⟨e1, _⟩ | ⟨g', cap', cur, e1, hb, hg, h1, h2, h3, h4⟩
  · simp at e1
  · simp at e1
    obtain ⟨rfl, rfl⟩ := e1
    refine ⟨by rw [List.length_set]; exact h.1, .inr ⟨g, cap, cur.setIfInBounds i x, rfl, hb, Blk.set hg i x, h1, h2, by simpa using h3, ?_⟩⟩
    rw [Array.toList_setIfInBounds, List.take_set, h4]
theorem own_slot {W : World} {base : Nat} {e : TypeId} {g n cap : Nat} {xs : List Value} (h : W.ownsRow base e 1 (.slice (some ⟨g, 0, none⟩) n cap) n xs) : base ≤ g ∧ g < W.heap.size ∧ (∀ i, W.frozen? ⟨g, i, none⟩ = false) ∧ (∀ (i : Nat) (x : Value), xs[i]? = some x → W.cell? ⟨g, i, none⟩ = some x) ∧ cap ≤ 9223372036854775807 ∧ n ≤ cap ∧ ∀ (t : TypeId) (cs : Array Value) (b : Nat), t ≠ e → Blk W b cs t → b ≠ g := by
  have hh := h
  rcases h.2 with ⟨e1, _⟩ | ⟨g', cap', cur, e1, hb, hg, h1, h2, h3, h4⟩
  · simp at e1
  · simp at e1
    obtain ⟨rfl, rfl⟩ := e1
    refine ⟨hb, (Array.getElem?_eq_some_iff.1 hg).1, fun i => Blk.free hg i, fun i x hx => ?_, by unfold maxLen at h2; omega, h1, ?_⟩
    · have := hh.cells rfl i x hx
      rw [Addr.add_lit, Nat.zero_add] at this
      exact this
    · rintro t cs b ht hB rfl
      have := (show W.heap[b]? = _ from hB).symm.trans hg
      simp at this
      exact ht this.2
end Go.Proofs.YtpheklgnmbpobaaGreatDoor
namespace Go.Proofs.YtpheklgnmbpobaaGreatDoor
open Go.RowKit
variable {P : Program} {ops : Array Oper} {Q : Exit → Act → World → Prop} {md : Region.Mode}
def opAt : List Oper → Nat → Option Oper
  | [], _ => none
  | o :: _, 0 => some o
  | _ :: l, i + 1 => opAt l i
theorem opAt_get : ∀ (l : List Oper) (i : Nat) (o : Oper), opAt l i = some o → l.toArray[i]? = some o
  | [], _, _, h => by cases h
  | o :: _, 0, _, h => by simpa [opAt] using h
  | _ :: l, i + 1, o, h => by simpa using opAt_get l i o h
def wpPick (P : Program) (l : List Oper) (S : World → Prop) (L : Act → Prop) : List Nat → Act → Prop
  | [], a => L a
  | i :: rest, a => ∃ o, opAt l i = some o ∧ ∃ v, YieldsIf P l.toArray S o v a ∧ wpPick P l S L rest (a.put o.dst v)
def pickB (md : Region.Mode) (ops : Array Oper) : List Nat → Array Bool → Bool
  | [], _ => true
  | i :: is, listed => (Region.ready md ops listed).contains i && Region.free md ops listed i && pickB md ops is (listed.setIfInBounds i true)
def setL : List Nat → Array Bool → Array Bool
  | [], listed => listed
  | i :: is, listed => setL is (listed.setIfInBounds i true)
theorem held_pick {l : List Oper} {S : World → Prop} (hsel : Region.noSelect l.toArray = true) {g : Nat} {w : World} (hS : S w) : ∀ (is : List Nat) (listed : Array Bool) (a : Act), pickB md l.toArray is listed = true →
    wpPick P l S (fun a' => wpAnyH P md l.toArray (Only Q) S g (setL is listed) a' w) is a → wpAnyH P md l.toArray (Only Q) S (g + is.length) listed a w
  | [], _, _, _, h => h
  | i :: is, listed, a, hB, h => by
    simp only [pickB, Bool.and_eq_true] at hB
    obtain ⟨⟨hr, hf⟩, hB'⟩ := hB
    obtain ⟨o, ho, v, hy, hrest⟩ := h
    have hQ : ∀ c a w, Only Q (.panic c) (Act.put a o.dst v) w → Only Q (.panic c) a w := fun _ _ _ h => h
    exact wpAnyH_take (opAt_get _ _ _ ho) hsel hf hr hQ hy hS (held_pick hsel hS is _ _ hB' hrest)
theorem held_plain {id : Nat} {a : Act} {w : World} {l : List Oper} (is : List Nat) (g : Nat) (S : World → Prop) (hm : P.follows .mixedOrders = true) (hsel : Region.noSelect l.toArray = true) (hg : g + is.length = l.toArray.size) (hB : pickB .any l.toArray is (Array.replicate l.toArray.size false) = true) (hS : S w.drew)
    (h : wpPick P l S (fun a' => wpAnyH P .any l.toArray (Only Q) S g (setL is (Array.replicate l.toArray.size false)) a' w.drew) is a) : (Code.region id l.toArray true).wp P Q a w := by
  have h2 := held_pick (P := P) (md := .any) (Q := Q) (S := S) hsel (g := g) hS is (Array.replicate l.toArray.size false) a hB h
  rw [hg] at h2
  exact (wpIn_wide (n := 1)).1 (wpIn_region_any hm (any_plain _ _ _ _ (wpAny_of_held (S := S) _ _ _ _ h2)))
theorem held_more {l : List Oper} {S : World → Prop} {is : List Nat} {g fuel : Nat} {listed : Array Bool} {a : Act} {w : World} (hsel : Region.noSelect l.toArray = true) (hf : fuel = g + is.length) (hS : S w) (hB : pickB md l.toArray is listed = true)
    (h : wpPick P l S (fun a' => wpAnyH P md l.toArray (Only Q) S g (setL is listed) a' w) is a) : wpAnyH P md l.toArray (Only Q) S fuel listed a w := by
  rw [hf]
  exact held_pick hsel hS is listed a hB h
end Go.Proofs.YtpheklgnmbpobaaGreatDoor
namespace Go.Proofs.YtpheklgnmbpobaaGreatDoor
open Go.RowKit
variable {P : Program} {ops : Array Oper} {Q : Exit → Act → World → Prop} {md : Region.Mode}
theorem held_op {S : World → Prop} {i : Nat} {o : Oper} {fuel : Nat} {listed : Array Bool} {a : Act} {w : World} (ho : ops[i]? = some o) (hg : o.guard = none)
    (h : wpList P ops (ThenH P md ops (Only Q) S fuel (listed.setIfInBounds i true)) [o] a w) : wpOp P ops (Only Q) i (fun a' w' => S w' ∧ wpAnyH P md ops (Only Q) S fuel (listed.setIfInBounds i true) a' w') a w := by
  unfold wpOp
  rw [ho]
  have hw : Region.wanted o (yielded ops a.tmps) = true := by simp [Region.wanted, hg]
  simp only [hw, if_true]
  unfold wpList at h
  rw [if_pos hw] at h
  rcases h with h | ⟨_, _, _, h⟩
  · left
    unfold Oper.wp at *
    generalize (execOp a.eval o).run P w = r at *
    cases r with
    | ok m w' =>
      cases m <;> simp only [Oper.upon] at h ⊢
      case value u => exact h
      case skip => exact h
      case defer d => exact h
      case enter f args =>
        refine Calls.mono h fun e w'' he => ?_
        cases e with
        | returned u => exact he
        | panicked c => exact he.elim
        | outgrown => obtain ⟨_, _, hx⟩ := he; exact hx.elim
      case row row args => exact h
    | halt x w' =>
      cases x <;> simp only [Oper.upon] at h ⊢
      case panic u => exact h.elim
  · exact h.elim
theorem held_two {S : World → Prop} {i j : Nat} {oi oj : Oper} {fuel : Nat} {listed : Array Bool} {a : Act} {w : World} (hr : Region.ready md ops listed = [i, j]) (hi : ops[i]? = some oi) (hj : ops[j]? = some oj) (hgi : oi.guard = none) (hgj : oj.guard = none)
    (h1 : wpList P ops (ThenH P md ops (Only Q) S fuel (listed.setIfInBounds i true)) [oi] a w)
    (h2 : wpList P ops (ThenH P md ops (Only Q) S fuel (listed.setIfInBounds j true)) [oj] a w) : wpAnyH P md ops (Only Q) S (fuel + 1) listed a w := by
  refine wpAnyH_all hr (by simp) fun k hk => ?_
  rcases List.mem_cons.1 hk with rfl | hk
  · exact held_op hi hgi h1
  · obtain rfl : k = j := by simpa using hk
    exact held_op hj hgj h2
end Go.Proofs.YtpheklgnmbpobaaGreatDoor
namespace Go.Proofs.YtpheklgnmbpobaaGreatDoor
open Go.RowKit Go.Shelf
open Go.Lib (decDigits nDigits)
set_option linter.unusedVariables false
set_option linter.unusedSimpArgs false
attribute [local go_sem] Oper.semAt_some
set_option maxRecDepth 100000 in
set_option maxHeartbeats 1000000 in
theorem p_scan (w : World) (a : Option Addr) (n c : Nat) :
    Calls Tryz.prog 121 #[.slice a n c] w fun e w' => e = .returned (.func (.func 156) #[] #[.pointer (some ⟨w.heap.size, 0, none⟩)]) ∧ w' = w.alloc (.cells #[.slice a n c] 36) := by
  go_enter Tryz.func121, Tryz.ntmps121
  go_wp2_with fail
  go_ret
  exact ⟨rfl, rfl⟩
structure KpE (n0 b1 : Nat) (W W' : World) : Prop where
  size : W.heap.size ≤ W'.heap.size
  rest : n0 ≤ W.heap.size → b1 < W.heap.size → Below n0 W W' ∧ W'.heap[b1]? = W.heap[b1]?
theorem KpE.refl (n0 b1 : Nat) (W : World) : KpE n0 b1 W W := ⟨Nat.le_refl _, fun _ _ => ⟨Below.refl _ _, rfl⟩⟩
theorem KpE.trans {n0 b1 : Nat} {A B C : World} (h : KpE n0 b1 A B) (k : KpE n0 b1 B C) : KpE n0 b1 A C :=
  ⟨Nat.le_trans h.size k.size, fun h1 h2 => by
    obtain ⟨x, y⟩ := h.rest h1 h2
    obtain ⟨x', y'⟩ := k.rest (Nat.le_trans h1 h.size) (Nat.lt_of_lt_of_le h2 h.size)
    exact ⟨x.trans x', y'.trans y⟩⟩
theorem KpE.of_below {n0 b1 : Nat} {W W' : World} (h : Below W.heap.size W W') : KpE n0 b1 W W' := ⟨h.size, fun h1 h2 => ⟨h.mono h1, h.block _ h2⟩⟩
theorem KpE.put {n0 b1 : Nat} {w : World} (h1 : n0 ≤ w.heap.size) (h2 : b1 < w.heap.size) (W : World) (l : Nat) (o o' : Obj) (hl : w.heap.size ≤ l) (h : W.heap[l]? = some o) (hc : o.isCells = false) (hw : o.isWalk = false) : KpE n0 b1 W (W.putObj l o') := by
  have hs : W.heap.size ≤ (W.putObj l o').heap.size := by simp [World.putObj]
  refine ⟨hs, fun _ _ => ⟨?_, ?_⟩⟩
  · exact ⟨rfl, rfl, rfl, hs, fun k hk => World.putObj_heap_other (by omega)⟩
  · exact World.putObj_heap_other (by omega)
theorem info_num : (Tryz.prog.info? 22).map (fun i => (i.zero, i.size, i.bytes)) = some (some (.string ⟨#[]⟩), 1, 16) := by kernel_rfl
def endL (ws : List Nat) (n : Nat) : List ByteArray := (List.range n).map fun i => numB (pre ws (i + 1))
@[simp] theorem endL_length (ws : List Nat) (n : Nat) : (endL ws n).length = n := by simp [endL]
theorem endL_succ (ws : List Nat) (n : Nat) : endL ws (n + 1) = endL ws n ++ [numB (pre ws (n + 1))] := by
  unfold endL
  rw [List.range_succ, List.map_append]; rfl
theorem endL_get {ws : List Nat} {n i : Nat} (h : i < n) : (endL ws n)[i]? = some (numB (pre ws (i + 1))) := by
  unfold endL
  rw [List.getElem?_map, List.getElem?_range h]; rfl
theorem strs_append (a b : List ByteArray) : strs (a ++ b) = strs a ++ strs b := by simp [strs]
def EndI (B : Nat) (ws : List Nat) (p : List (ByteArray × ByteArray)) (W : World) : Prop := ∃ v, p.length ≤ ws.length ∧ Boxed W B 36 v ∧ W.ownsRow B 22 1 v p.length (strs (endL ws p.length))
theorem EndI.own {B : Nat} {ws : List Nat} {C : Nat} : OwnFrom C (EndI B ws) := by
  rintro s X Y row ⟨v, h1, hv, hr⟩ hg hrow
  refine ⟨v, h1, hv.kept hg (fun e' => ?_), hr.kept hg ?_⟩
  · obtain ⟨-, o, ho, hc⟩ := hrow _ e'.symm
    rw [show X.heap[B]? = _ from hv] at ho; cases ho; cases hc
  · rcases hr.2 with ⟨rfl, _⟩ | ⟨g, cap, cur, rfl, _, hgb, _⟩
    · exact .inl rfl
    · refine .inr fun e' => ?_
      obtain ⟨-, o, ho, hc⟩ := hrow g (by simpa [Value.ownBlock] using e'.symm)
      rw [hgb] at ho; cases ho; cases hc
set_option maxRecDepth 100000 in
set_option maxHeartbeats 4000000 in
theorem p_ends (w : World) (v : Value) (ws : List Nat) (hws : WsOk ws) (hv : Row w v (strs (ws.map numB))) (hL : Lay w) :
    Calls Tryz.prog 71 #[v] w fun e w' => (∃ u, e = .returned u ∧ Row w' u (strs (endL ws ws.length))) ∧ Below w.heap.size w w' := by
  have HL := hid hL; have HV := hid hv; have HWS := hid hws
  obtain ⟨a, c, rfl, q1, q2, -⟩ := hv.openS
  obtain ⟨N, hN⟩ : ∃ N, (ws.map numB).length = N := ⟨_, rfl⟩
  have HN := hid (show ws.length = N from by rw [← hN]; simp)
  rw [hN] at HV q1
  rw [hN]
  clear hL hv hws hN
  refine (callsIn_wide (n := 9)).1 ?_
  refine callsIn_of_wp_marks Tryz.func71 rfl trivial ?_ rfl
  simp only [Tryz.ntmps71, List.size_toArray, List.length_cons, List.length_nil, Nat.reduceAdd, Nat.reduceSub, Array.replicate_succ, Array.replicate_zero, List.push_toArray, List.append_toArray, List.nil_append, List.cons_append]
  gi_wp2_with (refine ⟨trivial, ?_⟩; gi_at_call 121; refine (callsIn_wide.2 (p_scan _ _ _ _)).mono ?_; rintro e w' ⟨rfl, rfl⟩)
  obtain ⟨i0, hi, hz0, hz1, hz2⟩ := info_parts info_num
  obtain ⟨W0, hW0⟩ : ∃ W0, (w.alloc (.cells #[.slice none 0 0] 36)).alloc (.cells #[.slice a N c] 36) = W0 := ⟨_, rfl⟩
  have y0 : Blk W0 w.heap.size #[.slice none 0 0] 36 := by rw [← hW0]; exact (Blk.new w _ _).alloc _
  have y1 : Blk W0 (w.heap.size + 1) #[.slice a N c] 36 := by rw [← hW0]; exact Blk.made _ _ _ (by simp)
  have b0 : Below w.heap.size w W0 := by rw [← hW0]; exact ((Below.refl _ _).alloc (Nat.le_refl _) _).alloc (by simp) _
  have z0 : W0.heap.size = w.heap.size + 1 + 1 := by rw [← hW0]; simp
  rw [hW0]
  have Y0 := hid y0; have Y1 := hid y1; have HB0 := hid b0; have Z0 := hid z0
  clear y0 y1 b0 z0 hW0
  have hread : ∀ W1 W2, Below W0.heap.size W0 W1 → KpE w.heap.size (w.heap.size + 1) W1 W2 → W2.cell? ⟨w.heap.size + 1, 0, none⟩ = some (.slice a N c) ∧ Row W2 (.slice a N c) (strs (ws.map numB)) ∧ Lay W2 := fun W1 W2 b1 b2 => by
    have hs := b1.size
    have hz := Z0.out
    obtain ⟨r1, r2⟩ := b2.rest (by omega) (by omega)
    have g1 : Blk W2 (w.heap.size + 1) #[.slice a N c] 36 := r2.trans (Y1.out.call b1)
    have hb : Below w.heap.size w W2 := (HB0.out.trans (b1.mono (by omega))).trans r1
    exact ⟨g1.cell 0, HV.out.call hb, HL.out.call hb⟩
  refine range_ok (by omega) (gf := 156) (lb := #[.pointer (some ⟨w.heap.size + 1, 0, none⟩)]) rfl (enters_of Tryz.func156 (by kernel_rfl) rfl)
    (scan_feeds (Kp := KpE w.heap.size (w.heap.size + 1)) 8 (by omega) W0 _ _ ws HWS.out (KpE.refl _ _) KpE.trans hread (fun _ _ => KpE.of_below)) KpE.trans (KpE.put (by have := Z0.out; omega) (by have := Z0.out; omega)) (Below.refl _ _) (fun _ => rfl)
    (fun p W => (EndI w.heap.size ws p W ∧ Blk W (w.heap.size + 1) #[.slice a N c] 36) ∧ Below w.heap.size w W)
    (fun c p W => False)
    (OwnFrom.and (fun s X Y row hs hg hr => ⟨EndI.own s X Y row hs.1 hg hr, hs.2.kept hg (fun r e => (hr r e).2)⟩) (ownFrom_below (by have := Z0.out; omega) (by have := Z0.out; omega)))
    (fun c s X Y row hs hg hr => hs)
    ⟨⟨⟨_, Nat.zero_le _, Y0.out, ⟨rfl, .inl ⟨rfl, rfl⟩⟩⟩, Y1.out⟩, HB0.out⟩ ?act ?assign ?body ?done ?stop
  case assign =>
    intro l x W K hK
    gi_wp2
    exact hK
  case body =>
    rintro l p ⟨s, x⟩ W ⟨hd, hs, y, hy, hx⟩ ⟨⟨⟨v, h1, hv, hr⟩, h7⟩, hB⟩
    dsimp only at hs hx
    subst hs hx
    obtain ⟨a3, c3, rfl⟩ := owns_ex hr
    obtain ⟨i, hi'⟩ : ∃ i, p.length = i := ⟨_, rfl⟩
    rw [hi'] at hd hy hv hr ⊢
    have HI := hid hi'
    have c0 := Boxed.cell hv
    have f0 := Boxed.frozen hv
    have n1 := HWS.out.pre i
    have n2 := HWS.out.pre (i + 1)
    have n3 := HWS.out.dig y (List.mem_of_getElem? hy)
    rw [pre_succ hy] at n2
    have PL := fun V hV => hid (pk_plus V (pre ws i) y (by omega) (by omega) (by omega) hV)
    rw [← pre_succ hy] at PL
    have hi3 : i < 64 := by have := HWS.out.len; omega
    obtain ⟨S0, hS0⟩ : ∃ s, numB (pre ws i) = s := ⟨_, rfl⟩
    obtain ⟨X0, hX0⟩ : ∃ s, numB y = s := ⟨_, rfl⟩
    obtain ⟨R0, hR0⟩ : ∃ s, numB (pre ws (i + 1)) = s := ⟨_, rfl⟩
    rw [hS0, hX0, hR0] at PL
    rw [hS0, hX0]
    have HR0 := hid hR0; have HD := hid hd; have HV3 := hid hv; have HR := hid hr; have H7 := hid h7; have HB := hid hB
    have hLay := hid (HL.out.call hB)
    clear hd hy hv hr h7 hB n1 n2 n3 hS0 hX0 hR0 hi' h1
    gi_wp2_with fail
    refine held_round (fun _ => True) (by kernel_rfl) (by kernel_rfl) ?_
    refine held_more (is := [1, 2]) (g := 5) (by kernel_rfl) rfl trivial (by kernel_rfl) ?_
    iterate 2
      refine ⟨_, rfl, ?_⟩
      apply Exists.intro
      refine ⟨.inl ⟨by rfl, ?_⟩, ?_⟩
      · (intro W' hW'; clear hW'; go_simp; try (with_reducible rfl))
      (dsimp only [Act.put]; try simp only [List.setIfInBounds_toArray, List.set_cons_zero, List.set_cons_succ])
    refine held_two (i := 0) (j := 3) (by kernel_rfl) (by rfl) (by rfl) (by rfl) (by rfl) ?_ ?_
    · go_wp2_with fail
      refine ⟨trivial, ?_⟩
      refine held_one (i := 3) (by kernel_rfl) (by rfl) (by rfl) ?_
      go_wp2_with fail
      refine (PL _ (hLay.out.call (Below.refl _ _).drew)).out.mono ?_; rintro e w1 ⟨rfl, hb1⟩
      have y1 := hid (show Below W.heap.size W w1 from (Below.refl _ _).drew.trans hb1)
      have V1 := hid (show Boxed w1 w.heap.size 36 (.slice a3 i c3) from Blk.call (show Blk W w.heap.size #[.slice a3 i c3] 36 from HV3.out) y1.out)
      have R1 := hid (owns_call HR.out y1.out)
      have G7 := hid (H7.out.call y1.out)
      have B1 := hid (HB.out.trans (y1.out.mono HB.out.size))
      have k1 := V1.out.cell
      have k2 := (Boxed.alloc V1.out (.cells #[.string R0] 22)).cell
      clear hb1 c0 f0
      go_wp2_with fail
      refine ⟨trivial, ?_⟩
      refine held_one (i := 4) (by kernel_rfl) (by rfl) (by rfl) ?_
      go_wp2_with fail
      refine ⟨trivial, ?_⟩
      clear k1 k2
      refine held_one (i := 5) (by kernel_rfl) (by rfl) (by rfl) ?_
      refine wpList_append_own _ rfl _ _ 36 rfl w.heap.size 22 i0 (.string ⟨#[]⟩) 1 16 Tryz.underlying36 hi hz0 hz1 hz2 rfl (by decide) _ i _ rfl (R1.out.alloc _) ⟨w1.heap.size, 0, none⟩ 1 1 [.string R0] rfl rfl (cell_one_new w1 (.string R0) 22) (by simp [Value.oneCell']) (by unfold maxLen; omega) (by omega) (by have := B1.out.size; simp; omega) ?_
      intro v' w3 hown3 hgrow3 _
      obtain ⟨g2, cap2, rfl⟩ := ownsRow_succ hown3
      obtain ⟨e1, e2, e3, e4, e5⟩ := Boxed.appended (B := w.heap.size) V1.out (by decide) R1.out (by have := B1.out.size; omega) (Nat.le_refl _) hown3 hgrow3
      have m0 := e1.cell
      have m1 := e1.frozen
      have h8 : Boxed w3 (w.heap.size + 1) 36 (.slice a N c) := Boxed.kept (Boxed.alloc (show Boxed w1 (w.heap.size + 1) 36 (.slice a N c) from G7.out) (.cells #[.string R0] 22)) hgrow3 (Boxed.not_row (show Boxed w1 (w.heap.size + 1) 36 (.slice a N c) from G7.out) (by decide) R1.out)
      have H8 := hid h8; have E2 := hid e2; have E3 := hid e3; have E4 := hid e4; have E5 := hid e5
      clear e1 e2 e3 e4 e5 hown3 hgrow3 h8
      go_wp2_with fail
      refine ⟨trivial, ?_⟩
      refine held_one (i := 6) (by kernel_rfl) (by rfl) (by rfl) ?_
      go_wp2_with fail
      refine ⟨trivial, ?_⟩
      refine wpAnyH_done (by kernel_rfl) ?_ _
      simp only [Only]
      gi_wp2_with fail
      have hk7 : Blk (w3.setCell ⟨w.heap.size, 0, none⟩ (.slice (some ⟨g2, 0, none⟩) (i + 1) cap2)) (w.heap.size + 1) #[.slice a N c] 36 := Blk.other (show Blk w3 (w.heap.size + 1) #[.slice a N c] 36 from H8.out) (by simp) _
      refine ⟨KeepsFrom.trans ⟨y1.out.size, fun k o hk ho hc => (y1.out.block k (Array.getElem?_eq_some_iff.1 ho).1).trans ho⟩ (E4.out.from _), ⟨Nat.le_trans y1.out.size E5.out.size, fun _ _ => ⟨(y1.out.mono HB.out.size).trans E5.out, hk7.trans (Eq.symm H7.out)⟩⟩, ⟨⟨_, ?_, E2.out, ?_⟩, hk7⟩, B1.out.trans E5.out⟩
      · rw [List.length_append, List.length_singleton, HI.out]; exact HD.out
      · rw [List.length_append, List.length_singleton, HI.out, endL_succ, strs_append, HR0.out]; exact E3.out
    · go_wp2_with fail
      refine (PL _ (hLay.out.call (Below.refl _ _).drew)).out.mono ?_; rintro e w1 ⟨rfl, hb1⟩
      have y1 := hid (show Below W.heap.size W w1 from (Below.refl _ _).drew.trans hb1)
      have V1 := hid (show Boxed w1 w.heap.size 36 (.slice a3 i c3) from Blk.call (show Blk W w.heap.size #[.slice a3 i c3] 36 from HV3.out) y1.out)
      have R1 := hid (owns_call HR.out y1.out)
      have G7 := hid (H7.out.call y1.out)
      have B1 := hid (HB.out.trans (y1.out.mono HB.out.size))
      have k1 := V1.out.cell
      have k2 := (Boxed.alloc V1.out (.cells #[.string R0] 22)).cell
      clear hb1 c0 f0
      go_wp2_with fail
      refine ⟨trivial, ?_⟩
      refine held_two (i := 0) (j := 4) (by kernel_rfl) (by rfl) (by rfl) (by rfl) (by rfl) ?_ ?_
      · go_wp2_with fail
        refine ⟨trivial, ?_⟩
        refine held_one (i := 4) (by kernel_rfl) (by rfl) (by rfl) ?_
        go_wp2_with fail
        refine ⟨trivial, ?_⟩
        clear k1 k2
        refine held_one (i := 5) (by kernel_rfl) (by rfl) (by rfl) ?_
        refine wpList_append_own _ rfl _ _ 36 rfl w.heap.size 22 i0 (.string ⟨#[]⟩) 1 16 Tryz.underlying36 hi hz0 hz1 hz2 rfl (by decide) _ i _ rfl (R1.out.alloc _) ⟨w1.heap.size, 0, none⟩ 1 1 [.string R0] rfl rfl (cell_one_new w1 (.string R0) 22) (by simp [Value.oneCell']) (by unfold maxLen; omega) (by omega) (by have := B1.out.size; simp; omega) ?_
        intro v' w3 hown3 hgrow3 _
        obtain ⟨g2, cap2, rfl⟩ := ownsRow_succ hown3
        obtain ⟨e1, e2, e3, e4, e5⟩ := Boxed.appended (B := w.heap.size) V1.out (by decide) R1.out (by have := B1.out.size; omega) (Nat.le_refl _) hown3 hgrow3
        have m0 := e1.cell
        have m1 := e1.frozen
        have h8 : Boxed w3 (w.heap.size + 1) 36 (.slice a N c) := Boxed.kept (Boxed.alloc (show Boxed w1 (w.heap.size + 1) 36 (.slice a N c) from G7.out) (.cells #[.string R0] 22)) hgrow3 (Boxed.not_row (show Boxed w1 (w.heap.size + 1) 36 (.slice a N c) from G7.out) (by decide) R1.out)
        have H8 := hid h8; have E2 := hid e2; have E3 := hid e3; have E4 := hid e4; have E5 := hid e5
        clear e1 e2 e3 e4 e5 hown3 hgrow3 h8
        go_wp2_with fail
        refine ⟨trivial, ?_⟩
        refine held_one (i := 6) (by kernel_rfl) (by rfl) (by rfl) ?_
        go_wp2_with fail
        refine ⟨trivial, ?_⟩
        refine wpAnyH_done (by kernel_rfl) ?_ _
        simp only [Only]
        gi_wp2_with fail
        have hk7 : Blk (w3.setCell ⟨w.heap.size, 0, none⟩ (.slice (some ⟨g2, 0, none⟩) (i + 1) cap2)) (w.heap.size + 1) #[.slice a N c] 36 := Blk.other (show Blk w3 (w.heap.size + 1) #[.slice a N c] 36 from H8.out) (by simp) _
        refine ⟨KeepsFrom.trans ⟨y1.out.size, fun k o hk ho hc => (y1.out.block k (Array.getElem?_eq_some_iff.1 ho).1).trans ho⟩ (E4.out.from _), ⟨Nat.le_trans y1.out.size E5.out.size, fun _ _ => ⟨(y1.out.mono HB.out.size).trans E5.out, hk7.trans (Eq.symm H7.out)⟩⟩, ⟨⟨_, ?_, E2.out, ?_⟩, hk7⟩, B1.out.trans E5.out⟩
        · rw [List.length_append, List.length_singleton, HI.out]; exact HD.out
        · rw [List.length_append, List.length_singleton, HI.out, endL_succ, strs_append, HR0.out]; exact E3.out
      · go_wp2_with fail
        refine ⟨trivial, ?_⟩
        refine held_one (i := 0) (by kernel_rfl) (by rfl) (by rfl) ?_
        go_wp2_with fail
        refine ⟨trivial, ?_⟩
        clear k1 k2
        refine held_one (i := 5) (by kernel_rfl) (by rfl) (by rfl) ?_
        refine wpList_append_own _ rfl _ _ 36 rfl w.heap.size 22 i0 (.string ⟨#[]⟩) 1 16 Tryz.underlying36 hi hz0 hz1 hz2 rfl (by decide) _ i _ rfl (R1.out.alloc _) ⟨w1.heap.size, 0, none⟩ 1 1 [.string R0] rfl rfl (cell_one_new w1 (.string R0) 22) (by simp [Value.oneCell']) (by unfold maxLen; omega) (by omega) (by have := B1.out.size; simp; omega) ?_
        intro v' w3 hown3 hgrow3 _
        obtain ⟨g2, cap2, rfl⟩ := ownsRow_succ hown3
        obtain ⟨e1, e2, e3, e4, e5⟩ := Boxed.appended (B := w.heap.size) V1.out (by decide) R1.out (by have := B1.out.size; omega) (Nat.le_refl _) hown3 hgrow3
        have m0 := e1.cell
        have m1 := e1.frozen
        have h8 : Boxed w3 (w.heap.size + 1) 36 (.slice a N c) := Boxed.kept (Boxed.alloc (show Boxed w1 (w.heap.size + 1) 36 (.slice a N c) from G7.out) (.cells #[.string R0] 22)) hgrow3 (Boxed.not_row (show Boxed w1 (w.heap.size + 1) 36 (.slice a N c) from G7.out) (by decide) R1.out)
        have H8 := hid h8; have E2 := hid e2; have E3 := hid e3; have E4 := hid e4; have E5 := hid e5
        clear e1 e2 e3 e4 e5 hown3 hgrow3 h8
        go_wp2_with fail
        refine ⟨trivial, ?_⟩
        refine held_one (i := 6) (by kernel_rfl) (by rfl) (by rfl) ?_
        go_wp2_with fail
        refine ⟨trivial, ?_⟩
        refine wpAnyH_done (by kernel_rfl) ?_ _
        simp only [Only]
        gi_wp2_with fail
        have hk7 : Blk (w3.setCell ⟨w.heap.size, 0, none⟩ (.slice (some ⟨g2, 0, none⟩) (i + 1) cap2)) (w.heap.size + 1) #[.slice a N c] 36 := Blk.other (show Blk w3 (w.heap.size + 1) #[.slice a N c] 36 from H8.out) (by simp) _
        refine ⟨KeepsFrom.trans ⟨y1.out.size, fun k o hk ho hc => (y1.out.block k (Array.getElem?_eq_some_iff.1 ho).1).trans ho⟩ (E4.out.from _), ⟨Nat.le_trans y1.out.size E5.out.size, fun _ _ => ⟨(y1.out.mono HB.out.size).trans E5.out, hk7.trans (Eq.symm H7.out)⟩⟩, ⟨⟨_, ?_, E2.out, ?_⟩, hk7⟩, B1.out.trans E5.out⟩
        · rw [List.length_append, List.length_singleton, HI.out]; exact HD.out
        · rw [List.length_append, List.length_singleton, HI.out, endL_succ, strs_append, HR0.out]; exact E3.out
  case done =>
    rintro D' xs W hD hS ⟨⟨⟨v, h1, hv, hr⟩, h7⟩, hB⟩ hK
    rw [hS] at hr
    obtain ⟨a3, c3, rfl⟩ := owns_ex hr
    have c0 := Boxed.cell hv
    have hrow : Row (W.putObj D' (.deferred none)) _ (strs (endL ws ws.length)) := Row.put (Row.of_owns hr) hK _
    have HROW := hid hrow; have HB := hid hB; have HK := hid hK; have HDD := hid hD
    clear hS h1 hv hr h7 hB hK hrow hD
    gi_wp2_with fail
    refine marks_end HK.out (v := .slice a3 ws.length c3) (by simp [results, Tryz.results71, go_sem]) ⟨⟨_, rfl, HROW.out⟩, ?_⟩
    exact HB.out.trans (belowK_b (w := w) (Nat.le_refl _) _ D' _ _ (by have := Z0.out; have := HDD.out; omega) HK.out rfl rfl)
  case stop =>
    rintro D' c p W hD - h hK
    exact h.elim
end Go.Proofs.YtpheklgnmbpobaaGreatDoor
namespace Go.Proofs.YtpheklgnmbpobaaGreatDoor
open Go.RowKit Go.Shelf
open Go.Lib (decDigits nDigits)
set_option linter.unusedVariables false
set_option linter.unusedSimpArgs false
theorem pk_cmp (V : World) (x y : Nat) (hx : nDigits x ≤ 4000) (hy : nDigits y ≤ 4000) : Calls Tryz.prog 36 #[.string (numB x), .string (numB y)] V fun e w' => e = .returned (.int .i64 (ordN x y)) ∧ Below V.heap.size V w' := by
  refine (n_Cmp V _ _ (numB_sz hx) (numB_sz hy)).mono ?_
  rintro e w' ⟨rfl, hb⟩
  exact ⟨by rw [cmpN_num hx hy], hb⟩
theorem ordN_pos {a b : Nat} : decide (ordN a b > 0) = decide (b < a) := by
  unfold ordN
  by_cases h1 : a < b
  · rw [if_pos h1]; simp; omega
  · rw [if_neg h1]
    by_cases h2 : b < a
    · rw [if_pos h2]; simp [h2]
    · rw [if_neg h2]; simp; omega
structure CellOk (ws : List Nat) (t low : Nat) : Prop where
  t : nDigits t ≤ 100
  ws : nDigits ws.sum ≤ 3802
  low : nDigits low ≤ 3990
theorem CellOk.mul {ws : List Nat} {t low : Nat} (h : CellOk ws t low) (i : Nat) : nDigits (pre ws i * t) ≤ 3902 := nd_mul (nd_pre i h.ws) h.t (by omega)
set_option maxRecDepth 100000 in
set_option maxHeartbeats 2000000 in
theorem p_test (w : World) (bt b2 bl : Nat) (v : Value) (ws : List Nat) (i t low : Nat) (hi : i < ws.length) (hok : CellOk ws t low) (hT : Blk w bt #[v] 36) (hv : Row w v (strs (endL ws ws.length))) (h2 : Blk w b2 #[.string (numB t)] 22) (hl : Blk w bl #[.string (numB low)] 22) (hL : Lay w) (hlen : ws.length ≤ 64) :
    Calls Tryz.prog 82 #[.int .i64 (i : Nat), .pointer (some ⟨bt, 0, none⟩), .pointer (some ⟨b2, 0, none⟩), .pointer (some ⟨bl, 0, none⟩)] w fun e w' => e = .returned (.bool (decide (low < pre ws (i + 1) * t))) ∧ Below w.heap.size w w' := by
  obtain ⟨a, c, rfl, q1, q2, q3⟩ := hv.openS
  rw [endL_length] at hT q1 hv
  obtain ⟨g, o, rfl, hg, hc⟩ := q3 i _ (endL_get hi)
  have PT := fun V hV => hid (pk_times V (pre ws (i + 1)) t (by have := nd_pre (i + 1) hok.ws; omega) (by have := hok.t; omega) (by have := hok.mul (i + 1); omega) hV)
  have PC := fun V => hid (pk_cmp V (pre ws (i + 1) * t) low (by have := hok.mul (i + 1); omega) (by have := hok.low; omega))
  obtain ⟨E0, hE0⟩ : ∃ s, numB (pre ws (i + 1)) = s := ⟨_, rfl⟩
  obtain ⟨T0, hT0⟩ : ∃ s, numB t = s := ⟨_, rfl⟩
  obtain ⟨M0, hM0⟩ : ∃ s, numB (pre ws (i + 1) * t) = s := ⟨_, rfl⟩
  obtain ⟨L0, hL0⟩ : ∃ s, numB low = s := ⟨_, rfl⟩
  obtain ⟨z, hz⟩ : ∃ z, ordN (pre ws (i + 1) * t) low = z := ⟨_, rfl⟩
  have hzz := hid (show decide (z > 0) = decide (low < pre ws (i + 1) * t) from by rw [← hz]; exact ordN_pos)
  rw [hE0, hT0, hM0] at PT
  rw [hM0, hL0, hz] at PC
  rw [hE0] at hc
  rw [hT0] at h2
  rw [hL0] at hl
  have KK : Hid (∀ w', Below w.heap.size w w' → w'.cell? ⟨bt, 0, none⟩ = some (.slice (some ⟨g, o, none⟩) ws.length c) ∧ w'.cell? ⟨g, o + i, none⟩ = some (.string E0) ∧ w'.cell? ⟨b2, 0, none⟩ = some (.string T0) ∧ w'.cell? ⟨bl, 0, none⟩ = some (.string L0)) := fun w' hb =>
    ⟨(hT.call hb).cell 0, (hb.cell hg).trans hc, (h2.call hb).cell 0, (hl.call hb).cell 0⟩
  have HL := hid hL
  have b1 : (0 : Int) ≤ (i : Int) := by omega
  obtain ⟨n, hn⟩ : ∃ n, ws.length = n := ⟨_, rfl⟩
  rw [hn] at KK q1 hi hlen
  have b2' : (i : Int) < (n : Int) := by omega
  rw [← hzz.out]
  clear hT hv h2 hl hL q3 hc hE0 hT0 hM0 hL0 hz hzz hok hn hi hg
  go_enter Tryz.func82, Tryz.ntmps82
  go_wp2_with fail
  refine held_plain [0, 1, 2, 3, 4, 6] 4 (fun w' => w'.cell? ⟨bt, 0, none⟩ = some (.slice (some ⟨g, o, none⟩) n c) ∧ w'.cell? ⟨g, o + i, none⟩ = some (.string E0) ∧ w'.cell? ⟨b2, 0, none⟩ = some (.string T0) ∧ w'.cell? ⟨bl, 0, none⟩ = some (.string L0)) (by kernel_rfl) (by kernel_rfl) (by kernel_rfl) (by kernel_rfl) (KK.out _ (Below.refl _ _).drew) ?_
  iterate 6
    refine ⟨_, rfl, ?_⟩
    apply Exists.intro
    refine ⟨.inl ⟨by rfl, ?_⟩, ?_⟩
    · (intro W' hW'; obtain ⟨q1, q2, q3, q4⟩ := hW'; go_simp; try (with_reducible rfl))
    (dsimp only [Act.put]; try simp only [List.setIfInBounds_toArray, List.set_cons_zero, List.set_cons_succ])
  refine held_one (i := 5) (by kernel_rfl) (by rfl) (by rfl) ?_
  go_wp2_with fail
  refine (PT _ (HL.out.call (Below.refl _ _).drew)).out.mono ?_; rintro e w1 ⟨rfl, hb1⟩
  have y1 := hid (show Below w.heap.size w w1 from (Below.refl _ _).drew.trans hb1)
  clear hb1
  go_wp2_with fail
  refine ⟨KK.out _ y1.out, ?_⟩
  refine held_one (i := 7) (by kernel_rfl) (by rfl) (by rfl) ?_
  go_wp2_with fail
  refine (PC _).out.mono ?_; rintro e w2 ⟨rfl, hb2⟩
  have y2 := hid (bnext y1.out hb2)
  clear hb2
  go_wp2_with fail
  refine ⟨KK.out _ y2.out, ?_⟩
  refine held_more (is := [8, 9]) (g := 0) (by kernel_rfl) rfl (KK.out _ y2.out) (by kernel_rfl) ?_
  iterate 2
    refine ⟨_, rfl, ?_⟩
    apply Exists.intro
    refine ⟨.inl ⟨by rfl, ?_⟩, ?_⟩
    · (intro W' hW'; obtain ⟨q1, q2, q3, q4⟩ := hW'; go_simp; try (with_reducible rfl))
    (dsimp only [Act.put]; try simp only [List.setIfInBounds_toArray, List.set_cons_zero, List.set_cons_succ])
  refine wpAnyH_done (by kernel_rfl) ?_ _
  simp only [Only]
  go_wp2_with fail
  go_ret
  exact ⟨rfl, y2.out⟩
def SrOk (F : Nat) (cs : Array Value) (p : Nat → Bool) (n : Nat) (w : World) : Prop :=
  ∀ (W : World) (i : Nat), Below w.heap.size w W → i < n → Calls Tryz.prog F (#[.int .i64 (i : Nat)] ++ cs) W fun e w' => e = .returned (.bool (p i)) ∧ Below W.heap.size W w'
set_option maxRecDepth 100000 in
set_option maxHeartbeats 2000000 in
theorem s_Search (w : World) (n F : Nat) (cs : Array Value) (p : Nat → Bool) (hn : n ≤ 1000000) (hen : ∀ args w, (callFunc F args).run Tryz.prog w = .ok (.enter F args) w) (hF : SrOk F cs p n w) (hm : ∀ x y, x ≤ y → y < n → p x = true → p y = true) :
    Calls Tryz.prog 81 #[.int .i64 (n : Nat), .func (.func F) #[] cs] w fun e w' => e = .returned (.int .i64 (fstI p n : Nat)) ∧ Below w.heap.size w w' := by
  have HF := fun W i h1 h2 => hid (hF W i h1 h2)
  have HM := hid hm
  have B0 := hid (Below.refl w.heap.size w)
  clear hF hm
  go_enter Tryz.func81, Tryz.ntmps81
  go_wp2_with fail
  go_loopw [5, 6] (fun ii jj wr => ∃ i j : Nat, ii = .int .i64 (i : Nat) ∧ jj = .int .i64 (j : Nat) ∧ i ≤ j ∧ j ≤ n ∧ Hid (∀ x, x < i → p x = false) ∧ Hid (j < n → p j = true) ∧ Hid (Below w.heap.size w wr)) (fun ii jj wr => (intOf jj).toNat - (intOf ii).toNat)
  case atStart => exact ⟨0, n, rfl, rfl, Nat.zero_le _, Nat.le_refl _, fun x hx => absurd hx (by omega), fun h => absurd h (by omega), B0.out⟩
  case round =>
    obtain ⟨i, j, rfl, rfl, hij, hjn, hI, hJ, hB⟩ := hrel
    by_cases hlt : i < j
    · have f1 : (i : Int) < (j : Int) := by omega
      obtain ⟨h, hh⟩ : ∃ h, (i + j) / 2 = h := ⟨_, rfl⟩
      have hh1 : i ≤ h := by omega
      have hh2 : h < j := by omega
      have e1 : IntKind.i64.wrap ((i : Int) + (j : Int)) = (i : Int) + (j : Int) := by rw [IntWalk.i64_in _ ⟨by omega, by omega⟩]
      have e2 : ((i : Int) + (j : Int)) / 2 = (h : Int) := by omega
      have e3 : IntKind.i64.wrap ((h : Int) + 1) = ((h + 1 : Nat) : Int) := by rw [IntWalk.i64_in _ ⟨by omega, by omega⟩]; omega
      obtain ⟨z, hz⟩ : ∃ z, p h = z := ⟨_, rfl⟩
      have HZ := hid hz
      have C := HF wr h hB.out (by omega)
      rw [hz] at C
      have E1 := hid e1; have E3 := hid e3
      clear hz hh e3
      go_wp2_with fail
      refine C.out.mono ?_; rintro e w1 ⟨rfl, hb1⟩
      have y1 := hid (bnext hB.out hb1)
      clear hb1
      have e3 := E3.out
      cases z
      · go_wp2_with fail
        go_roundw
        case rel => exact ⟨h + 1, j, rfl, rfl, by omega, by omega, fun x hx => by
          have := HM.out x h (by omega) (by omega)
          cases hc : p x
          · rfl
          · rw [this hc] at HZ; exact absurd HZ.out (by simp), hJ, y1⟩
        case measure => simp [intOf] <;> omega
      · go_wp2_with fail
        go_roundw
        case rel => exact ⟨i, h, rfl, rfl, by omega, by omega, hI, fun _ => HZ.out, y1⟩
        case measure => simp [intOf] <;> omega
    · obtain rfl : i = j := by omega
      have q0 : decide ((i : Int) < (i : Int)) = false := by simp
      clear hlt hij
      go_wp2_with fail
      go_ret
      refine ⟨?_, hB.out⟩
      rw [fstI_eq hjn hI.out hJ.out]
      rfl
end Go.Proofs.YtpheklgnmbpobaaGreatDoor
namespace Go.Proofs.YtpheklgnmbpobaaGreatDoor
open Go.RowKit
open Go.Lib (decDigits nDigits)
set_option linter.unusedVariables false
def NoInt (cs : Array Value) : Prop := ∀ (i : Nat) (k : IntKind) (x : Int), cs[i]? ≠ some (.int k x)
theorem NoInt.three (m : Bool) (a b : Option Addr) (n c n' c' : Nat) : NoInt #[.bool m, .slice a n c, .slice b n' c'] := by
  intro i k x h
  rcases i with _ | _ | _ | i <;> simp at h
theorem IsN.setQ {k : IntKind} {w : World} {v : Value} {n b : Nat} {cs : Array Value} {t : TypeId} (h : IsN k w v n) (hb : Blk w b cs t) (hc : NoInt cs) (j : Nat) (u : Value) : IsN k (w.setCell ⟨b, j, none⟩ u) v n := by
  obtain ⟨a, c, rfl, h1, h2, h3⟩ := h.ex
  refine ⟨a, c, rfl, h1, h2, fun i x hx => ?_⟩
  obtain ⟨g, o, e, hg, hcell⟩ := h3 i x hx
  refine ⟨g, o, e, by simpa [World.setCell] using hg, ?_⟩
  have hne : g ≠ b := by
    rintro rfl
    rw [hb.cell] at hcell
    have : x ∈ ints k (limbs n) := List.mem_of_getElem? hx
    obtain ⟨y, _, rfl⟩ := List.mem_map.1 this
    exact hc _ _ _ hcell
  rw [← hcell]
  unfold World.cell?
  rw [Below.heap_setCell _ _ _ _ (by simpa using hne)]
theorem set3 {w : World} {b : Nat} {m0 : Bool} {a0 b0 : Option Addr} {n0 c0 n1 c1 : Nat} {t : TypeId} (hb : Blk w b #[.bool m0, .slice a0 n0 c0, .slice b0 n1 c1] t) (m : Bool) (a a' : Option Addr) (n c n' c' : Nat) :
    (∀ (k : IntKind) (v : Value) (x : Nat), IsN k w v x → IsN k (((w.setCell ⟨b, 0, none⟩ (.bool m)).setCell ⟨b, 1, none⟩ (.slice a n c)).setCell ⟨b, 2, none⟩ (.slice a' n' c')) v x) ∧
    Blk (((w.setCell ⟨b, 0, none⟩ (.bool m)).setCell ⟨b, 1, none⟩ (.slice a n c)).setCell ⟨b, 2, none⟩ (.slice a' n' c')) b #[.bool m, .slice a n c, .slice a' n' c'] t := by
  have h1 := hb.set 0 (.bool m)
  have h2 := h1.set 1 (.slice a n c)
  have h3 := h2.set 2 (.slice a' n' c')
  simp at h1 h2 h3
  refine ⟨fun k v x h => ?_, h3⟩
  exact ((h.setQ hb (NoInt.three _ _ _ _ _ _ _) 0 _).setQ h1 (NoInt.three _ _ _ _ _ _ _) 1 _).setQ h2 (NoInt.three _ _ _ _ _ _ _) 2 _
end Go.Proofs.YtpheklgnmbpobaaGreatDoor
namespace Go.Proofs.YtpheklgnmbpobaaGreatDoor
open Go.RowKit Go.Shelf
open Go.Lib (decDigits nDigits)
set_option linter.unusedVariables false
set_option linter.unusedSimpArgs false
theorem pk_le {a b : Nat} : decide (ordN a b ≤ 0) = decide (a ≤ b) := by
  unfold ordN
  split
  · simp; omega
  · split <;> simp <;> omega
set_option maxRecDepth 100000 in
set_option maxHeartbeats 4000000 in
theorem p_dec (w0 : World) (ba bt : Nat) (v : Value) (ws : List Nat) (hA : Blk w0 ba #[.string (numB ws.sum)] 22) (hT : Blk w0 bt #[v] 36) (hv : Row w0 v (strs (endL ws ws.length))) (hws : WsOk ws) (hL : Lay w0) :
    DecOk 79 #[.pointer (some ⟨ba, 0, none⟩), .pointer (some ⟨bt, 0, none⟩)] (pkF ws) w0 := by
  intro w k u hw hk hu
  obtain ⟨a, c, rfl, q1, q2, -⟩ := hv.openS
  rw [endL_length] at hT q1 hv
  obtain ⟨t, ht⟩ : ∃ t, 2 ^ u = t := ⟨_, rfl⟩
  have t1 := two_nd (u := u) (by omega)
  rw [ht] at hk t1 ⊢
  have HA := hid (hA.call hw); have HT := hid (hT.call hw); have HV := hid (hv.call hw); have HL := hid (hL.call hw); have HWS := hid hws
  have nk : nDigits k ≤ 100 := Nat.le_trans (nDigits_mono (Nat.le_of_lt hk)) t1
  have ns := hws.sum
  have nl : nDigits (k * ws.sum) ≤ 3902 := by have := nd_mul nk ns (by omega); omega
  have OK := hid (CellOk.mk (ws := ws) (t := t) (low := k * ws.sum) t1 ns (by omega))
  have P1 := fun V hV => hid (pk_times V k ws.sum (by omega) (by omega) (by omega) hV)
  have P2 := fun V hV => hid (pk_plus V (k * ws.sum) ws.sum (by omega) (by omega) (by have := nd_add nl (show nDigits ws.sum ≤ 3902 by omega); omega) hV)
  have P3 := fun V i hV => hid (pk_times V (pre ws (i + 1)) t (by have := hws.pre (i + 1); omega) (by omega) (by have := OK.out.mul (i + 1); omega) hV)
  have P4 := fun V i => hid (pk_cmp V (k * ws.sum + ws.sum) (pre ws (i + 1) * t) (by have := nd_add nl (show nDigits ws.sum ≤ 3902 by omega); omega) (by have := OK.out.mul (i + 1); omega))
  have PT := fun V i (bl : Nat) (h1 : i < ws.length) h2 h3 h4 h5 h6 => hid (p_test V bt w.heap.size bl (.slice a ws.length c) ws i t (k * ws.sum) h1 OK.out h2 h3 h4 h5 h6 hws.len)
  obtain ⟨n, hn⟩ : ∃ n, ws.length = n := ⟨_, rfl⟩
  have HN := hid hn
  have hnl : n ≤ 64 := by rw [← hn]; exact hws.len
  obtain ⟨i, hi⟩ : ∃ i, fstI (fun i => decide (k * ws.sum < pre ws (i + 1) * t)) ws.length = i := ⟨_, rfl⟩
  have HI := hid hi
  have hpk : pkF ws k t = (i, decide (i < n) && decide (k * ws.sum + ws.sum ≤ pre ws (i + 1) * t)) := by unfold pkF; rw [hi, hn]
  have hmono : Hid (∀ x y, x ≤ y → y < n → (decide (k * ws.sum < pre ws (x + 1) * t)) = true → (decide (k * ws.sum < pre ws (y + 1) * t)) = true) := fun x y hxy _ h => by
    simp only [decide_eq_true_eq] at h ⊢
    exact Nat.lt_of_lt_of_le h (Nat.mul_le_mul_right _ (pre_mono ws (by omega)))
  rw [hpk]
  rw [hn] at HT q1 HV PT hi
  have HI2 := hid hi
  clear hi HI
  obtain ⟨K0, hK0⟩ : ∃ s, numB k = s := ⟨_, rfl⟩
  obtain ⟨S0, hS0⟩ : ∃ s, numB ws.sum = s := ⟨_, rfl⟩
  obtain ⟨L0, hL0⟩ : ∃ s, numB (k * ws.sum) = s := ⟨_, rfl⟩
  obtain ⟨T0, hT0⟩ : ∃ s, numB t = s := ⟨_, rfl⟩
  obtain ⟨M0, hM0⟩ : ∃ s, numB (k * ws.sum + ws.sum) = s := ⟨_, rfl⟩
  rw [hK0, hS0, hL0] at P1
  rw [hL0, hS0, hM0] at P2
  simp only [hT0] at P3
  simp only [hM0] at P4
  rw [hS0] at HA
  have E4 : Hid (numB t = T0) := hT0
  have E5 : Hid (numB (k * ws.sum) = L0) := hL0
  rw [hK0, hT0]
  clear hv hT hA hL hws hw hk hn hpk nk ns nl t1 ht hK0 hS0 hL0 hT0 hM0
  have c0 := HA.out.cell 0
  have c1 := HT.out.cell 0
  have lt1 := HA.out.lt
  have lt2 := HT.out.lt
  simp at c0 c1
  go_enter Tryz.func79, Tryz.ntmps79
  go_wp2_with fail
  have A0 := hid ((Below.refl w.heap.size w).alloc (Nat.le_refl _) (.cells #[.string T0] 22))
  refine (P1 _ (HL.out.call A0.out)).out.mono ?_; rintro e w1 ⟨rfl, hb1⟩
  have y1 := hid (A0.out.trans (hb1.mono A0.out.size))
  have B2 := hid ((Blk.new w #[.string T0] 22).call hb1)
  have l1 := hb1.size
  simp at l1
  have HA1 := hid (HA.out.call y1.out); have HT1 := hid (HT.out.call y1.out); have HV1 := hid (HV.out.call y1.out); have HL1 := hid (HL.out.call y1.out)
  have c1 := HT1.out.cell 0
  have c2 := HA1.out.cell 0
  simp at c1 c2
  have c5 : (w1.alloc (Obj.cells #[Value.string L0] 22)).cell? ⟨bt, 0, none⟩ = some (.slice a n c) := (HT1.out.alloc (.cells #[.string L0] 22)).cell 0
  clear hb1 c0
  go_wp2_with fail
  have Z0 := hid ((Below.refl w1.heap.size w1).alloc (Nat.le_refl _) (.cells #[.string L0] 22))
  have SR : SrOk 82 #[.pointer (some ⟨bt, 0, none⟩), .pointer (some ⟨w.heap.size, 0, none⟩), .pointer (some ⟨w1.heap.size, 0, none⟩)] (fun i => decide (k * ws.sum < pre ws (i + 1) * t)) n (w1.alloc (.cells #[.string L0] 22)) := fun W j hb hj =>
    (PT W j w1.heap.size hj ((HT1.out.call Z0.out).call hb) ((HV1.out.call Z0.out).call hb) (by rw [E4.out]; exact (B2.out.call Z0.out).call hb) (by rw [E5.out]; exact (Blk.new w1 _ _).call hb) ((HL1.out.call Z0.out).call hb)).out
  refine (s_Search _ n _ _ _ (by omega) (enters_of Tryz.func82 (by kernel_rfl) rfl) SR hmono.out).mono ?_; rintro e w3 ⟨rfl, hb3⟩
  rw [HI2.out]
  have z3 := hid (Z0.out.trans (hb3.mono Z0.out.size))
  have y3 := hid (bnext y1.out z3.out)
  have B3 := hid ((B2.out.call Z0.out).call hb3)
  have D3 := hid ((Blk.new w1 #[.string L0] 22).call hb3)
  have HA3 := hid (HA1.out.call z3.out); have HT3 := hid (HT1.out.call z3.out); have HV3 := hid (HV1.out.call z3.out); have HL3 := hid (HL1.out.call z3.out)
  have c3 := HT3.out.cell 0
  simp at c3
  clear hb3 c1 c2 c5 SR
  by_cases hlt : i < n
  · have q3 : decide ((i : Int) < (n : Int)) = true := by simp; omega
    have b1 : (0 : Int) ≤ (i : Int) := by omega
    have b2 : (i : Int) < (n : Int) := by omega
    obtain ⟨a', c', e', -, -, hcell⟩ := HV3.out.openS
    simp only [Value.slice.injEq] at e'
    obtain ⟨rfl, -, rfl⟩ := e'
    obtain ⟨g, o, rfl, hg, hc⟩ := hcell i _ (endL_get hlt)
    have P3' := fun V hV => P3 V i hV
    have P4' := fun V => P4 V i
    obtain ⟨X0, hX0⟩ : ∃ s, numB (pre ws (i + 1)) = s := ⟨_, rfl⟩
    obtain ⟨Y0, hY0⟩ : ∃ s, numB (pre ws (i + 1) * t) = s := ⟨_, rfl⟩
    obtain ⟨z, hz⟩ : ∃ z, ordN (k * ws.sum + ws.sum) (pre ws (i + 1) * t) = z := ⟨_, rfl⟩
    have hzz := hid (show decide (z ≤ 0) = decide (k * ws.sum + ws.sum ≤ pre ws (i + 1) * t) from by rw [← hz]; exact pk_le)
    rw [hX0, hY0] at P3'
    rw [hY0, hz] at P4'
    rw [hX0] at hc
    have KK : Hid (∀ w', Below w3.heap.size w3 w' → w'.cell? ⟨bt, 0, none⟩ = some (.slice (some ⟨g, o, none⟩) n c) ∧ w'.cell? ⟨g, o + i, none⟩ = some (.string X0) ∧ w'.cell? ⟨w.heap.size, 0, none⟩ = some (.string T0) ∧ w'.cell? ⟨w1.heap.size, 0, none⟩ = some (.string L0) ∧ w'.cell? ⟨ba, 0, none⟩ = some (.string S0)) := fun w' hb =>
      ⟨(HT3.out.call hb).cell 0, (hb.cell hg).trans hc, (B3.out.call hb).cell 0, (D3.out.call hb).cell 0, (HA3.out.call hb).cell 0⟩
    have HLT := hid hlt
    clear hcell hc hX0 hY0 hz hlt c3
    go_wp2_with fail
    go_region_held3 (fun w' => w'.cell? ⟨bt, 0, none⟩ = some (.slice (some ⟨g, o, none⟩) n c) ∧ w'.cell? ⟨g, o + i, none⟩ = some (.string X0) ∧ w'.cell? ⟨w.heap.size, 0, none⟩ = some (.string T0) ∧ w'.cell? ⟨w1.heap.size, 0, none⟩ = some (.string L0) ∧ w'.cell? ⟨ba, 0, none⟩ = some (.string S0))
      (first
        | exact KK.out _ (Below.refl _ _).drew
        | exact KK.out _ Y6.out
        | exact KK.out _ Y5.out
        | exact KK.out _ Y4.out)
      (first
        | (go_at_call 83; refine (P2 _ (HL3.out.call (Below.refl _ _).drew)).out.mono ?_; rintro e w4 ⟨rfl, hb4⟩; have Y4 := hid (show Below w3.heap.size w3 w4 from (Below.refl _ _).drew.trans hb4); clear hb4)
        | (go_at_call 80; refine (P3' _ (HL3.out.call Y4.out)).out.mono ?_; rintro e w5 ⟨rfl, hb5⟩; have Y5 := hid (bnext Y4.out hb5); clear hb5)
        | (go_at_call 36; refine (P4' _).out.mono ?_; rintro e w6 ⟨rfl, hb6⟩; have Y6 := hid (bnext Y5.out hb6); clear hb6))
    go_wp2_with fail
    go_ret2
    exact ⟨by rw [hzz.out]; simp [HLT.out], bnext y3.out Y6.out⟩
  · have q3 : decide ((i : Int) < (n : Int)) = false := by simp; omega
    have HLT := hid hlt
    have q4 : decide (i < n) = false := by simp; omega
    have Q4 := hid q4
    clear hlt q3 q4
    go_wp2_with fail
    refine held_plain [0, 1, 2, 3, 4, 5] 14 (fun w' => w'.cell? ⟨bt, 0, none⟩ = some (.slice a n c)) (by kernel_rfl) (by kernel_rfl) (by kernel_rfl) (by kernel_rfl) c3 ?_
    iterate 6
      refine ⟨_, rfl, ?_⟩
      apply Exists.intro
      refine ⟨.inl ⟨by rfl, ?_⟩, ?_⟩
      · (intro W' hW'; obtain q1 := hW'; go_simp; try (with_reducible rfl))
      (dsimp only [Act.put]; try simp only [List.setIfInBounds_toArray, List.set_cons_zero, List.set_cons_succ])
    rw [Q4.out]
    refine held_more (is := [6, 7, 8, 9, 10, 11, 12, 13, 14, 15, 16]) (g := 3) (by kernel_rfl) rfl c3 (by kernel_rfl) ?_
    iterate 11
      refine ⟨_, rfl, ?_⟩
      apply Exists.intro
      refine ⟨.inr ⟨by rfl, rfl⟩, ?_⟩
      (dsimp only [Act.put]; try simp only [List.setIfInBounds_toArray, List.set_cons_zero, List.set_cons_succ])
    refine held_more (is := [17, 18, 19]) (g := 0) (by kernel_rfl) rfl c3 (by kernel_rfl) ?_
    iterate 3
      refine ⟨_, rfl, ?_⟩
      apply Exists.intro
      refine ⟨.inl ⟨by rfl, ?_⟩, ?_⟩
      · (intro W' hW'; obtain q1 := hW'; go_simp; try (with_reducible rfl))
      (dsimp only [Act.put]; try simp only [List.setIfInBounds_toArray, List.set_cons_zero, List.set_cons_succ])
    refine wpAnyH_done (by kernel_rfl) ?_ _
    simp only [Only]
    go_wp2_with fail
    go_ret2
    exact ⟨by simp [HLT.out], y3.out.drew⟩
end Go.Proofs.YtpheklgnmbpobaaGreatDoor
namespace Go.Proofs.YtpheklgnmbpobaaGreatDoor
open Go.RowKit Go.Shelf
open Go.Lib (decDigits nDigits)
set_option linter.unusedVariables false
set_option linter.unusedSimpArgs false
theorem wtE_ok : ∀ (l : List ByteArray), wtE l = 0 → ∀ b ∈ l, b = numB (bN b) ∧ nDigits (bN b) ≤ 3800
  | [], _, b, hb => by simp at hb
  | x :: r, h, b, hb => by
    unfold wtE at h
    by_cases h1 : errN x.data.toList ≠ 0
    · rw [if_pos h1] at h; exact absurd h h1
    · rw [if_neg h1] at h
      by_cases h2 : 3800 < x.size
      · rw [if_pos h2] at h; exact absurd h (by decide)
      · rw [if_neg h2] at h
        rcases List.mem_cons.1 hb with rfl | hb
        · obtain ⟨a, e, h3⟩ := errN_zero.1 (Decidable.not_not.1 h1)
          have ha : bN b = a := by rw [bN, e, dv_dec]
          have hb2 : b = numB a := by apply ba_ext; rw [numB_list]; exact e
          rw [ha]
          refine ⟨hb2, ?_⟩
          have := numB_size a
          rw [← hb2] at this
          omega
        · exact wtE_ok r h b hb
theorem wsE_ok {l : List ByteArray} (h : wsE l = 0) : l = (l.map bN).map numB ∧ WsOk (l.map bN) ∧ 1 ≤ l.length := by
  unfold wsE at h
  by_cases h1 : l.length = 0 ∨ 64 < l.length
  · rw [if_pos h1] at h; exact absurd h (by decide)
  · rw [if_neg h1] at h
    by_cases h2 : wtE l ≠ 0
    · rw [if_pos h2] at h; exact absurd h h2
    · have h3 := wtE_ok l (Decidable.not_not.1 h2)
      refine ⟨?_, ⟨by rw [List.length_map]; omega, fun x hx => ?_⟩, by omega⟩
      · rw [List.map_map]
        conv => lhs; rw [← List.map_id l]
        exact List.map_congr_left fun b hb => (h3 b hb).1
      · obtain ⟨b, hb, rfl⟩ := List.mem_map.1 hx
        exact (h3 b hb).2
def drE (l : List ByteArray) (b : ByteArray) : Int := if wsE l ≠ 0 then wsE l else chkE b
def dr3 (l : List ByteArray) (b : ByteArray) : Bool × Nat × Nat := if drE l b = 0 then pdr (pkF (l.map bN)) 0 1 b.data.toList else (false, 0, 0)
theorem chkE_size {b : ByteArray} (h : chkE b = 0) : b.size ≤ 256 := by
  unfold chkE at h
  split at h
  · split at h
    · exact absurd h (by decide)
    · omega
  · exact absurd h (by decide)
set_option maxRecDepth 100000 in
set_option maxHeartbeats 4000000 in
theorem p_Draw (w : World) (v : Value) (l : List ByteArray) (b : ByteArray) (hv : Row w v (strs l)) (hl : ∀ x ∈ l, x.size ≤ 1000000) (hb : b.size ≤ 100000000) (hL : Lay w) :
    Calls Tryz.prog 34 #[v, .string b] w fun e w' => e = .returned (.tuple #[dw3 (dr3 l b), .int .i64 (drE l b)]) ∧ Below w.heap.size w w' := by
  have PC := fun V hV => hid (p_check V v l hV hl)
  have PD := fun V => hid (p_checked V b hb)
  have PE := fun V hws hV hLV => hid (p_ends V v (l.map bN) hws hV hLV)
  have HL := hid hL; have HV := hid hv
  obtain ⟨a, c, rfl, q1, q2, -⟩ := hv.openS
  obtain ⟨N, hN⟩ : ∃ N, l.length = N := ⟨_, rfl⟩
  have HN := hid hN
  rw [hN] at PC PE q1 HV ⊢
  clear hv hL hl hN
  have A0 := hid ((Below.refl w.heap.size w).alloc (Nat.le_refl _) (.cells #[.bool false, .int .i64 0, .int .i64 0] 33))
  have x0 := hid (Blk.new w #[.bool false, .int .i64 0, .int .i64 0] 33)
  obtain ⟨z, hz⟩ : ∃ z, wsE l = z := ⟨_, rfl⟩
  obtain ⟨y, hy⟩ : ∃ y, chkE b = y := ⟨_, rfl⟩
  have HZ := hid hz; have HY := hid hy
  rw [hz] at PC
  rw [hy] at PD
  by_cases h0 : z = 0
  · by_cases h1 : y = 0
    · obtain ⟨D1, D2, D3⟩ := wsE_ok (hz.trans h0)
      have hE : drE l b = 0 := by unfold drE; rw [hz, hy, h0, h1]; simp
      have hR : dr3 l b = pdr (pkF (l.map bN)) 0 1 b.data.toList := by unfold dr3; rw [if_pos hE]
      rw [hE, hR]
      have h256 := chkE_size (hy.trans h1)
      obtain ⟨ws, hws⟩ : ∃ ws, l.map bN = ws := ⟨_, rfl⟩
      rw [hws] at PE D1 D2 ⊢
      have HWS := hid D2
      have hlen : ws.length = N := by rw [← hws, List.length_map]; exact HN.out
      have HD1 := hid D1
      rw [HN.out] at D3
      obtain ⟨m, rfl⟩ : ∃ m, N = m + 1 := ⟨N - 1, by omega⟩
      have HLEN := hid hlen
      have hm : m < 64 := by have := D2.len; omega
      subst h0 h1
      clear D1 D2 D3 hE hR hz hy hws hlen hb
      go_enter Tryz.func34, Tryz.ntmps34
      go_wp2_with fail
      refine (PC _ (HV.out.call A0.out)).out.mono ?_; rintro e w1 ⟨rfl, hb1⟩
      have y1 := hid (bnext A0.out hb1); have k1 := hid (x0.out.call hb1)
      clear hb1
      go_wp2_with fail
      refine (PD _).out.mono ?_; rintro e w2 ⟨rfl, hb2⟩
      have y2 := hid (bnext y1.out hb2); have k2 := hid (k1.out.call hb2)
      clear hb2
      go_wp2_with fail
      refine (PE _ HWS.out (by rw [← HD1.out]; exact HV.out.call y2.out) (HL.out.call y2.out)).out.mono ?_; rintro e w3 ⟨⟨u, rfl, hu⟩, hb3⟩
      have y3 := hid (bnext y2.out hb3); have k3 := hid (k2.out.call hb3)
      clear hb3
      have hu2 := hid hu
      obtain ⟨a5, c5, rfl, r1, r2, r3⟩ := hu.openS
      rw [endL_length] at hu2 r1 ⊢
      obtain ⟨g, o, rfl, hg, hc⟩ := r3 m _ (endL_get (by rw [HLEN.out]; omega))
      rw [pre_all (by rw [HLEN.out]; omega)] at hc
      rw [HLEN.out] at r1 ⊢
      have HU : Hid (Row w3 (.slice (some ⟨g, o, none⟩) (m + 1) c5) (strs (endL ws ws.length))) := by have := hu2.out; rw [HLEN.out] at this ⊢; exact this
      obtain ⟨S0, hS0⟩ : ∃ s, numB ws.sum = s := ⟨_, rfl⟩
      have HS0 := hid hS0
      rw [hS0] at hc
      have HC := hid hc
      have e1 : IntKind.i64.wrap (((m + 1 : Nat) : Int) - 1) = (m : Int) := by rw [IntWalk.i64_in _ ⟨by omega, by omega⟩]; omega
      have b1 : (0 : Int) ≤ (m : Int) := by omega
      have b2 : (m : Int) < (m : Int) + 1 := by omega
      have c1 : (w3.alloc (.cells #[.slice (some ⟨g, o, none⟩) (m + 1) c5] 36)).cell? ⟨g, o + m, none⟩ = some (.string S0) := (((Below.refl w3.heap.size w3).alloc (Nat.le_refl _) _).cell hg).trans hc
      clear hu hu2 r3 hc hS0
      go_wp2_with fail
      have A5 := hid (((Below.refl w3.heap.size w3).alloc (Nat.le_refl _) (.cells #[.slice (some ⟨g, o, none⟩) (m + 1) c5] 36)).alloc (by simp) (.cells #[.string S0] 22))
      have X7 := hid ((Blk.new w3 #[.slice (some ⟨g, o, none⟩) (m + 1) c5] 36).alloc (.cells #[.string S0] 22))
      have X8 : Hid (Blk ((w3.alloc (.cells #[.slice (some ⟨g, o, none⟩) (m + 1) c5] 36)).alloc (.cells #[.string S0] 22)) (w3.heap.size + 1) #[.string S0] 22) := Blk.made _ _ _ (by simp)
      have hL5 := hid ((HL.out.call y3.out).call A5.out)
      refine (p_draw _ b 79 _ (pkF ws) h256 (enters_of Tryz.func79 (by kernel_rfl) rfl) (p_dec _ _ _ _ ws (by rw [HS0.out]; exact X8.out) X7.out (HU.out.call A5.out) HWS.out hL5.out) hL5.out).mono ?_; rintro e w4 ⟨rfl, hb4⟩
      have z4 := hid (A5.out.trans (hb4.mono A5.out.size))
      have y4 := hid (bnext y3.out z4.out); have k4 := hid (k3.out.call z4.out)
      obtain ⟨X, hX⟩ : ∃ X, pdr (pkF ws) 0 1 b.data.toList = X := ⟨_, rfl⟩
      rw [hX]
      have HX := hid hX
      obtain ⟨d, vv, uu⟩ := X
      simp only [dw3]
      clear hb4 hX c1
      have r0 := k4.out.cell 0
      have r1' := k4.out.cell 1
      have r2' := k4.out.cell 2
      have f0 := k4.out.free 0
      have f1 := k4.out.free 1
      have f2 := k4.out.free 2
      simp at r0 r1' r2'
      go_wp2_with fail
      have s3 := ((k4.out.set 0 (.bool d)).set 1 (.int .i64 (vv : Nat))).set 2 (.int .i64 (uu : Nat))
      have z0 := s3.cell 0
      have z1 := s3.cell 1
      have z2 := s3.cell 2
      simp at z0 z1 z2
      refine bodyPost_ret (v := .tuple #[.agg #[.bool d, .int .i64 (vv : Nat), .int .i64 (uu : Nat)], .int .i64 0]) (by simp [results, Tryz.results34, go_sem, z0, z1, z2]) rfl ⟨by rw [HX.out]; rfl, ?_⟩
      exact ((y4.out.setCell (Nat.le_refl _) _).setCell (Nat.le_refl _) _).setCell (Nat.le_refl _) _
    · have hE : drE l b = y := by unfold drE; rw [hz, hy, h0]; simp
      have hR : dr3 l b = (false, 0, 0) := by unfold dr3; rw [if_neg (by rw [hE]; exact h1)]
      rw [hE, hR]
      simp only [dw3]
      have q3 : (y == 0) = false := by rw [beq_eq_false_iff_ne]; exact h1
      have q4 : (y != 0) = true := by rw [bne_iff_ne]; exact h1
      subst h0
      clear hE hR hz hy hb h1
      go_enter Tryz.func34, Tryz.ntmps34
      go_wp2_with fail
      refine (PC _ (HV.out.call A0.out)).out.mono ?_; rintro e w1 ⟨rfl, hb1⟩
      have y1 := hid (bnext A0.out hb1); have k1 := hid (x0.out.call hb1)
      clear hb1
      go_wp2_with fail
      refine (PD _).out.mono ?_; rintro e w2 ⟨rfl, hb2⟩
      have y2 := hid (bnext y1.out hb2); have k2 := hid (k1.out.call hb2)
      clear hb2
      have r0 := k2.out.cell 0
      have r1' := k2.out.cell 1
      have r2' := k2.out.cell 2
      have f0 := k2.out.free 0
      have f1 := k2.out.free 1
      have f2 := k2.out.free 2
      simp at r0 r1' r2'
      go_wp2_with fail
      have s3 := ((k2.out.set 0 (.bool false)).set 1 (.int .i64 0)).set 2 (.int .i64 0)
      have z0 := s3.cell 0
      have z1 := s3.cell 1
      have z2 := s3.cell 2
      simp at z0 z1 z2
      refine bodyPost_ret (v := .tuple #[.agg #[.bool false, .int .i64 0, .int .i64 0], .int .i64 y]) (by simp [results, Tryz.results34, go_sem, z0, z1, z2]) rfl ⟨rfl, ?_⟩
      exact ((y2.out.setCell (Nat.le_refl _) _).setCell (Nat.le_refl _) _).setCell (Nat.le_refl _) _
  · have hE : drE l b = z := by unfold drE; rw [hz, if_pos h0]
    have hR : dr3 l b = (false, 0, 0) := by unfold dr3; rw [if_neg (by rw [hE]; exact h0)]
    rw [hE, hR]
    simp only [dw3]
    have q3 : (z == 0) = false := by rw [beq_eq_false_iff_ne]; exact h0
    have q4 : (z != 0) = true := by rw [bne_iff_ne]; exact h0
    clear hE hR hz hy hb h0
    go_enter Tryz.func34, Tryz.ntmps34
    go_wp2_with fail
    refine (PC _ (HV.out.call A0.out)).out.mono ?_; rintro e w1 ⟨rfl, hb1⟩
    have y1 := hid (bnext A0.out hb1); have k1 := hid (x0.out.call hb1)
    clear hb1
    have r0 := k1.out.cell 0
    have r1' := k1.out.cell 1
    have r2' := k1.out.cell 2
    have f0 := k1.out.free 0
    have f1 := k1.out.free 1
    have f2 := k1.out.free 2
    simp at r0 r1' r2'
    go_wp2_with fail
    have s3 := ((k1.out.set 0 (.bool false)).set 1 (.int .i64 0)).set 2 (.int .i64 0)
    have z0 := s3.cell 0
    have z1 := s3.cell 1
    have z2 := s3.cell 2
    simp at z0 z1 z2
    refine bodyPost_ret (v := .tuple #[.agg #[.bool false, .int .i64 0, .int .i64 0], .int .i64 z]) (by simp [results, Tryz.results34, go_sem, z0, z1, z2]) rfl ⟨rfl, ?_⟩
    exact ((y1.out.setCell (Nat.le_refl _) _).setCell (Nat.le_refl _) _).setCell (Nat.le_refl _) _
end Go.Proofs.YtpheklgnmbpobaaGreatDoor
namespace Go.Proofs.YtpheklgnmbpobaaGreatDoor
open Go.RowKit
set_option linter.unusedVariables false
def isZ (n : Nat) : Bool := decide (n = 0)
def isO (n : Nat) : Bool := decide (n = 1)
theorem isZ_iff {n : Nat} : isZ n = true ↔ n = 0 := by simp [isZ]
theorem isO_iff {n : Nat} : isO n = true ↔ n = 1 := by simp [isO]
theorem limbs_len_zero {n : Nat} : (limbs n).length = 0 ↔ n = 0 := by
  rw [List.length_eq_zero_iff]; exact limbs_nil
theorem l_Zero (w : World) (v : Value) (n : Nat) (h : IsN .u64 w v n) : Calls Tryz.prog 143 #[v] w fun e w' => e = .returned (.bool (isZ n)) ∧ w = w' := by
  obtain ⟨a, c, rfl, h1, h2, -⟩ := h.openI
  obtain ⟨L, hL⟩ : ∃ L, (limbs n).length = L := ⟨_, rfl⟩
  have hz : isZ n = ((L : Int) == 0) := by
    rw [Bool.eq_iff_iff, isZ_iff, beq_iff_eq]
    rw [← limbs_len_zero, hL]; omega
  have HZ := hid hz
  rw [hL]
  clear h hL hz h1
  go_enter Tryz.func143, Tryz.ntmps143
  go_wp2_with fail
  go_ret
  exact ⟨by rw [HZ.out]; first | rfl | simp, rfl⟩
theorem l_One (w : World) (v : Value) (n : Nat) (h : IsN .u64 w v n) : Calls Tryz.prog 145 #[v] w fun e w' => e = .returned (.bool (isO n)) ∧ w = w' := by
  obtain ⟨a, c, rfl, h1, h2, h3⟩ := h.openI
  by_cases hl : (limbs n).length = 1
  · obtain ⟨x, hx⟩ : ∃ x, (limbs n)[0]? = some x := ⟨_, List.getElem?_eq_getElem (by omega)⟩
    obtain ⟨g, o, rfl, hg, hc⟩ := h3 0 x hx
    rw [Nat.add_zero] at hc
    have hn : n = x := by
      have h4 : limbs n = [x] := by
        apply List.ext_getElem?
        intro i
        rcases i with _ | i
        · exact hx
        · rw [List.getElem?_eq_none (by omega)]; simp
      have := val_limbs n
      rw [h4] at this
      simpa [val_cons] using this.symm
    subst hn
    have HL := hid hl
    rw [hl]
    clear hl hx h3 h h1
    by_cases h1 : n = 1
    · subst h1
      go_enter Tryz.func145, Tryz.ntmps145
      go_wp2_with fail
      go_ret
      exact ⟨rfl, rfl⟩
    · have q1 : ((n : Int) == 1) = false := beq_eq_false_iff_ne.2 (by omega)
      have H1 := hid (show isO n = false by simp [isO, h1])
      clear h1
      go_enter Tryz.func145, Tryz.ntmps145
      go_wp2_with fail
      go_ret
      exact ⟨ret_bool (by rw [H1.out]), rfl⟩
  · obtain ⟨L, hL⟩ : ∃ L, (limbs n).length = L := ⟨_, rfl⟩
    have hn : isO n = false := by
      refine Bool.eq_false_iff.2 fun e => hl ?_
      rw [isO_iff.1 e, limbs_one]; rfl
    rw [hL] at hl ⊢
    have q1 : ((L : Int) == 1) = false := beq_eq_false_iff_ne.2 (by omega)
    have H1 := hid hn
    clear hl hn hL h h3 h1
    go_enter Tryz.func145, Tryz.ntmps145
    go_wp2_with fail
    go_ret
    exact ⟨ret_bool (by rw [H1.out]), rfl⟩
end Go.Proofs.YtpheklgnmbpobaaGreatDoor
namespace Go.Proofs.YtpheklgnmbpobaaGreatDoor
open Go.RowKit Go.Shelf
open Go.Lib (decDigits nDigits)
set_option linter.unusedVariables false
set_option linter.unusedSimpArgs false
set_option maxRecDepth 100000 in
set_option maxHeartbeats 1000000 in
theorem n_DivMod1 (w : World) (v u : Value) (a b g : Nat) (s : ByteArray) (ha : IsN .u64 w v a) (hb : IsN .u64 w u b) (hla : (limbs a).length ≤ 1000) (hlb : (limbs b).length ≤ 1000) (h0 : 0 < b) (hd : nDigits (a / b) ≤ 4000) (hg : Blk w g #[.string s] 22) (hL : Lay w) (hLg : LayLt g) :
    Calls Tryz.prog 194 #[v, u, .pointer (some ⟨g, 0, none⟩)] w fun e w' => e = .returned (.tuple #[.string (numB (a / b)), .int .i64 0]) ∧ Blk w' g #[.string (numB (a % b))] 22 ∧ Below g w w' := by
  have HA := hid ha; have HB := hid hb; have HL := hid hL; have HG := hid hg; have HLG := hid hLg
  have LA := hid hla; have LB := hid hlb; have H0 := hid h0
  have LQ := hid (show (limbs (a / b)).length ≤ 1000 from Nat.le_trans (limbs_length_mono (Nat.div_le_self a b)) hla)
  have LR := hid (show (limbs (a % b)).length ≤ 1000 from Nat.le_trans (limbs_length_mono (Nat.mod_le a b)) hla)
  have HR : Hid (resB (a / b) = numB (a / b) ∧ resE (a / b) = 0) := ⟨by rw [resB, if_neg (by omega)], resE_ok (by omega)⟩
  obtain ⟨a1, c1, rfl, _⟩ := ha.openI
  obtain ⟨a2, c2, rfl, _⟩ := hb.openI
  have hz : isZ b = false := by
    cases h : isZ b
    · rfl
    · have := isZ_iff.1 h; omega
  have C0 := hid (l_Zero w _ b hb)
  rw [hz] at C0
  obtain ⟨R0, hR0⟩ : ∃ R, numB (a % b) = R := ⟨_, rfl⟩
  have HR0 := hid hR0
  rw [hR0]
  clear hLg ha hb hL hla hlb hg hz h0 hd hR0
  go_enter Tryz.func194, Tryz.ntmps194
  go_wp2_with fail
  refine C0.out.mono ?_; rintro e w1 ⟨rfl, rfl⟩
  go_wp2_with fail
  refine (l_DivMod _ _ _ a b HA.out HB.out H0.out (by have := LA.out; omega)).mono ?_
  rintro e w1 ⟨⟨v1, v2, rfl, hv1, hv2⟩, hb1⟩
  have y1 := hid hb1; have V1 := hid hv1; have V2 := hid hv2; have G1 := hid (HG.out.call hb1); clear hb1 hv1 hv2
  obtain ⟨a3, c3, rfl, _⟩ := V1.out.openI
  obtain ⟨a4, c4, rfl, _⟩ := V2.out.openI
  go_wp2_with fail
  refine (l_String _ _ _ V2.out (HL.out.call y1.out) (by have := LR.out; omega)).mono ?_
  rintro e w2 ⟨rfl, hb2⟩
  have y2 := hid (bnext y1.out hb2); have G2 := hid (G1.out.call hb2); have V12 := hid (V1.out.call hb2); clear hb2
  rw [show (⟨(decDigits (a % b)).toArray⟩ : ByteArray) = R0 from HR0.out]
  have c0 := G2.out.free 0
  have c1' := G2.out.cell 0
  simp at c1'
  have L0 := HG.out.lt
  have X3 : Hid (Blk (w2.setCell ⟨g, 0, none⟩ (.string R0)) g #[.string R0] 22) := G2.out.set 0 (.string R0)
  have y3 := hid ((y2.out.mono (Nat.le_of_lt L0)).setCell (p := ⟨g, 0, none⟩) (Nat.le_refl _) (.string R0))
  go_wp2_with fail
  have VS := IsN.setQ V12.out G2.out (by intro i k x h; rcases i with _ | i <;> simp at h) 0 (.string R0)
  have LS : Lay (w2.setCell ⟨g, 0, none⟩ (.string R0)) := Lay.below (HL.out.call y2.out) ((Below.refl g _).setCell (p := ⟨g, 0, none⟩) (Nat.le_refl _) _) HLG.out
  refine (n_result _ _ _ VS (by have := LQ.out; omega) LS).mono ?_
  rintro e w3 ⟨rfl, hb3⟩
  rw [HR.out.1, HR.out.2]
  have X4 := hid (X3.out.call hb3)
  have y4 := hid (y3.out.trans (hb3.mono (Nat.le_of_lt X3.out.lt)))
  clear hb3 VS LS c0 c1'
  go_wp2_with fail
  go_ret2
  exact ⟨rfl, X4.out, y4.out⟩
set_option maxRecDepth 100000 in
set_option maxHeartbeats 1000000 in
theorem n_DivMod (w : World) (a b : Nat) (ha : nDigits a ≤ 4000) (hb : nDigits b ≤ 4000) (h0 : 0 < b) (hL : Lay w) :
    Calls Tryz.prog 150 #[.string (numB a), .string (numB b)] w fun e w' => e = .returned (.tuple #[.string (numB (a / b)), .string (numB (a % b)), .int .i64 0]) ∧ Below w.heap.size w w' := by
  have hd : nDigits (a / b) ≤ 4000 := Nat.le_trans (nDigits_mono (Nat.div_le_self a b)) ha
  have ea := errN_numB ha
  have eb := errN_numB hb
  have A0 := hid ((Below.refl w.heap.size w).alloc (Nat.le_refl _) (.cells #[.string ⟨#[]⟩] 22))
  have X0 := hid (Blk.new w #[.string ⟨#[]⟩] 22)
  have P := hid (n_pairK (w.alloc (.cells #[.string ⟨#[]⟩] 22)) (numB a) (numB b) 194 #[.pointer (some ⟨w.heap.size, 0, none⟩)] (numB (a / b)) 0 (fun W w' => Blk w' w.heap.size #[.string (numB (a % b))] 22 ∧ Below w.heap.size W w') ea eb (enters_of Tryz.func194 (by kernel_rfl) rfl)
    (fun W v u hW hv hu => by
      rw [bN_num] at hv hu
      have d1 := (errN_dig ea).2.2
      have d2 := (errN_dig eb).2.2
      rw [bN_num] at d1 d2
      exact n_DivMod1 W v u a b w.heap.size ⟨#[]⟩ hv hu d1 d2 h0 hd (X0.out.call hW) ((hL.call A0.out).call hW) hL.lt))
  obtain ⟨A, hA⟩ : ∃ s, numB a = s := ⟨_, rfl⟩
  obtain ⟨B, hB⟩ : ∃ s, numB b = s := ⟨_, rfl⟩
  obtain ⟨Q, hQ⟩ : ∃ s, numB (a / b) = s := ⟨_, rfl⟩
  obtain ⟨R, hR⟩ : ∃ s, numB (a % b) = s := ⟨_, rfl⟩
  rw [hA, hB, hQ, hR] at P
  rw [hA, hB, hQ, hR]
  clear ha hb h0 hd ea eb hA hB hQ hR hL
  go_enter Tryz.func150, Tryz.ntmps150
  go_wp2_with fail
  refine P.out.mono ?_; rintro e w1 ⟨rfl, W, hW, hg, hb⟩
  have y1 := hid ((A0.out.trans (hW.mono A0.out.size)).trans hb)
  have G1 := hid hg
  have c0 := hg.cell 0
  have c1 := hg.free 0
  simp at c0
  clear hW hg hb
  go_wp2_with fail
  go_region
  go_wp2_with fail
  have s3 : Blk (w1.setCell ⟨w.heap.size, 0, none⟩ (.string R)).drew w.heap.size #[.string R] 22 := (G1.out.set 0 (.string R)).drew
  have z0 := s3.cell 0
  simp at z0
  refine bodyPost_ret (v := .tuple #[.string Q, .string R, .int .i64 0]) (by simp [results, Tryz.results150, go_sem, z0]) rfl ⟨rfl, ?_⟩
  exact (y1.out.setCell (Nat.le_refl _) _).drew
end Go.Proofs.YtpheklgnmbpobaaGreatDoor
namespace Go.Proofs.YtpheklgnmbpobaaGreatDoor
open Go.RowKit Go.Shelf
open Go.Lib (decDigits nDigits)
set_option linter.unusedVariables false
theorem s_Itoa (w : World) (n : Nat) (h : n ≤ 9223372036854775807) (hL : Lay w) :
    Calls Tryz.prog 72 #[.int .i64 (n : Nat)] w fun e w' => e = .returned (.string (numB n)) ∧ Below w.heap.size w w' := by
  refine (Tryz.strconv_Itoa (n : Int) (by omega) (by omega) w hL.tab).mono ?_
  rintro e w' ⟨rfl, k, os, rfl⟩
  have en : (⟨(Lib.itoa (n : Int)).toArray⟩ : ByteArray) = numB n := by
    unfold numB Lib.itoa
    rw [if_neg (by omega)]; rfl
  exact ⟨by rw [en], below_grow w k os⟩
end Go.Proofs.YtpheklgnmbpobaaGreatDoor
namespace Go.Proofs.YtpheklgnmbpobaaGreatDoor
open Go.RowKit Go.Shelf
open Go.Lib (decDigits nDigits decNat decFrom digitVal)
set_option linter.unusedVariables false
set_option linter.unusedSimpArgs false
theorem atoi_dec (n : Nat) : Lib.atoi (decDigits n) = some (n : Int) := by
  have hd := allDig_dec n
  have hne : decDigits n ≠ [] := by
    intro e
    have := Lib.decDigits_length n
    rw [e] at this
    have := nd_pos n
    simp at *
    omega
  have hv : decNat (decDigits n) = some n := by
    unfold decNat
    rw [if_neg (by simpa using hne), decFrom_dv hd, dv_dec, Nat.mul_zero, Nat.zero_add]
  cases h : decDigits n with
  | nil => exact absurd h hne
  | cons b r =>
    have hb := isDig_iff.1 (hd b (by rw [h]; exact List.mem_cons_self ..))
    unfold Lib.atoi
    have n1 : (b == 45) = false := by rw [beq_eq_false_iff_ne]; rintro rfl; revert hb; decide
    have n2 : (b == 43) = false := by rw [beq_eq_false_iff_ne]; rintro rfl; revert hb; decide
    simp only [n1, n2, Bool.false_eq_true, if_false]
    rw [← h, hv]; rfl
end Go.Proofs.YtpheklgnmbpobaaGreatDoor
namespace Go.Proofs.YtpheklgnmbpobaaGreatDoor
open Go.RowKit
open Go.Lib (decDigits nDigits)
set_option linter.unusedVariables false
set_option maxHeartbeats 1000000 in
theorem f_Zero (w : World) : Calls Tryz.prog 144 #[] w fun e w' => RetQ .u64 0 e w' ∧ Below w.heap.size w w' := by
  go_enter Tryz.func144, Tryz.ntmps144
  go_wp2_with fail
  refine (l_Of _ 1 (by omega)).mono ?_; rintro e w1 ⟨⟨v1, rfl, hv1⟩, hb1⟩
  obtain ⟨a3, c3, rfl, _⟩ := hv1.openI
  have HV := hid hv1
  have HB := hid (show Blk w1 w.heap.size #[.bool false, .slice none 0 0, .slice none 0 0] 129 from (Blk.new w _ _).call hb1)
  have d0 := HB.out.cell 0
  have d1 := HB.out.cell 1
  have d2 := HB.out.cell 2
  have e0 := HB.out.free 0
  have e1 := HB.out.free 1
  have e2 := HB.out.free 2
  have HBB := hid hb1
  clear hb1 hv1
  simp at d0 d1 d2
  go_wp2_with fail
  obtain ⟨s1, s2⟩ := set3 HB.out false none a3 0 0 (limbs 1).length c3
  have f0 := s2.cell 0
  have f1 := s2.cell 1
  have f2 := s2.cell 2
  simp at f0 f1 f2
  refine bodyPost_ret (v := .agg #[.bool false, .slice none 0 0, .slice a3 (limbs 1).length c3]) (by simp [results, Tryz.results144, go_sem, f0, f1, f2]) rfl ⟨⟨_, rfl, IsQ.zero_ (s1 _ _ _ (IsN.zero _ _)) (s1 _ _ _ HV.out)⟩, ?_⟩
  exact (((((Below.refl _ _).alloc (Nat.le_refl _) _).trans (HBB.out.mono (by simp))).setCell (Nat.le_refl _) _).setCell (Nat.le_refl _) _).setCell (Nat.le_refl _) _
theorem qmk_red {m : Bool} {n d : Nat} (hn : 0 < n) (hd : 0 < d) {k : IntKind} {w : World} {N D : Value} (hg : Nat.gcd n d = 1) (h1 : IsN k w N n) (h2 : IsN k w D d) : IsQ k w (.agg #[.bool m, N, D]) (qmk m n d) :=
  IsQ.mk' hn hd (by rw [hg, Nat.div_one]; exact h1) (by rw [hg, Nat.div_one]; exact h2)
set_option maxRecDepth 100000 in
set_option maxHeartbeats 2000000 in
theorem f_Make (w : World) (m : Bool) (v u : Value) (n d : Nat) (hn : IsN .u64 w v n) (hd : IsN .u64 w u d) (h0 : 0 < d) (hln : (limbs n).length ≤ 1000000) (hld : (limbs d).length ≤ 1000000) :
    Calls Tryz.prog 100 #[.bool m, v, u] w fun e w' => RetQ .u64 (qmk m n d) e w' ∧ Below w.heap.size w w' := by
  have HN := hid hn; have HD := hid hd
  obtain ⟨a1, c1, rfl, _⟩ := hn.openI
  obtain ⟨a2, c2, rfl, _⟩ := hd.openI
  obtain ⟨k1, hk1⟩ : ∃ k, (limbs n).length = k := ⟨_, rfl⟩
  obtain ⟨k2, hk2⟩ : ∃ k, (limbs d).length = k := ⟨_, rfl⟩
  have LN := hid hln; have LD := hid hld; have H0 := hid h0
  rw [hk1] at HN ⊢
  rw [hk2] at HD ⊢
  have b0 := hid ((Below.refl w.heap.size w).alloc (Nat.le_refl _) (.cells #[.bool false, .slice none 0 0, .slice none 0 0] 129))
  have x0 := hid (Blk.new w #[.bool false, .slice none 0 0, .slice none 0 0] 129)
  have N0 := hid (HN.out.call b0.out); have D0 := hid (HD.out.call b0.out)
  clear hn hd hln hld h0 hk1 hk2
  rcases Nat.eq_zero_or_pos n with rfl | hp
  · have hq := hid (qmk_zero m d)
    rw [hq.out]
    have hz : isZ 0 = true := rfl
    go_enter Tryz.func100, Tryz.ntmps100
    go_wp2_with fail
    refine (l_Zero _ _ _ N0.out).mono ?_; rintro e w1 ⟨rfl, rfl⟩
    rw [hz]
    clear hz
    go_wp2_with fail
    refine (f_Zero _).mono ?_; rintro e w1 ⟨⟨v1, rfl, hv1⟩, hb1⟩
    obtain ⟨M, D, rfl, h2, h3⟩ := hv1.ex
    obtain ⟨a3, c3, rfl, _⟩ := h2.openI
    obtain ⟨a4, c4, rfl, _⟩ := h3.openI
    have hm : decide ((0 : Rat).num < 0) = false := rfl
    rw [hm]
    have HB := hid (x0.out.call hb1)
    have BB := hid (bnext b0.out hb1)
    have d0 := HB.out.cell 0
    have d1 := HB.out.cell 1
    have d2 := HB.out.cell 2
    have e0 := HB.out.free 0
    have e1 := HB.out.free 1
    have e2 := HB.out.free 2
    have H2 := hid h2; have H3 := hid h3
    clear hb1 hv1 h2 h3 hm
    simp at d0 d1 d2
    obtain ⟨l1, hl1⟩ : ∃ k, (limbs (0 : Rat).num.natAbs).length = k := ⟨_, rfl⟩
    obtain ⟨l2, hl2⟩ : ∃ k, (limbs (0 : Rat).den).length = k := ⟨_, rfl⟩
    rw [hl1] at H2 ⊢
    rw [hl2] at H3 ⊢
    clear hl1 hl2
    go_wp2_with fail
    obtain ⟨s1, s2⟩ := set3 HB.out false a3 a4 l1 c3 l2 c4
    have f0 := s2.cell 0
    have f1 := s2.cell 1
    have f2 := s2.cell 2
    simp at f0 f1 f2
    refine bodyPost_ret (v := .agg #[.bool false, .slice a3 l1 c3, .slice a4 l2 c4]) (by simp [results, Tryz.results100, go_sem, f0, f1, f2]) rfl ⟨⟨_, rfl, ⟨_, _, rfl, s1 _ _ _ H2.out, s1 _ _ _ H3.out⟩⟩, ?_⟩
    exact ((BB.out.setCell (Nat.le_refl _) _).setCell (Nat.le_refl _) _).setCell (Nat.le_refl _) _
  · have hz : isZ n = false := by unfold isZ; simpa using (by omega : n ≠ 0)
    have HP := hid hp
    clear hp
    by_cases h1 : d = 1
    · have ho : isO d = true := isO_iff.2 h1
      have HG := hid (show Nat.gcd n d = 1 by rw [h1, Nat.gcd_one_right])
      clear h1
      go_enter Tryz.func100, Tryz.ntmps100
      go_wp2_with fail
      refine (l_Zero _ _ _ N0.out).mono ?_; rintro e w1 ⟨rfl, rfl⟩
      rw [hz]
      clear hz
      go_wp2_with fail
      refine (l_One _ _ _ D0.out).mono ?_; rintro e w1 ⟨rfl, rfl⟩
      rw [ho]
      clear ho
      go_wp2_with fail
      have hB := Blk.new w #[.bool m, .slice a1 k1 c1, .slice a2 k2 c2] 129
      have f0 := hB.cell 0
      have f1 := hB.cell 1
      have f2 := hB.cell 2
      simp at f0 f1 f2
      have b1 := (Below.refl w.heap.size w).alloc (Nat.le_refl _) (.cells #[.bool m, .slice a1 k1 c1, .slice a2 k2 c2] 129)
      refine bodyPost_ret (v := .agg #[.bool m, .slice a1 k1 c1, .slice a2 k2 c2]) (by simp [results, Tryz.results100, go_sem]) rfl ⟨⟨_, rfl, qmk_red HP.out H0.out HG.out (HN.out.call b1) (HD.out.call b1)⟩, b1⟩
    · have ho : isO d = false := by unfold isO; simpa using h1
      obtain ⟨g, hg⟩ : ∃ g, Nat.gcd n d = g := ⟨_, rfl⟩
      have hgp : 0 < g := hg ▸ Nat.gcd_pos_of_pos_left d HP.out
      have HG := hid hg; have HGP := hid hgp
      clear h1 hg hgp
      go_enter Tryz.func100, Tryz.ntmps100
      go_wp2_with fail
      refine (l_Zero _ _ _ N0.out).mono ?_; rintro e w1 ⟨rfl, rfl⟩
      rw [hz]
      clear hz
      go_wp2_with fail
      refine (l_One _ _ _ D0.out).mono ?_; rintro e w1 ⟨rfl, rfl⟩
      rw [ho]
      clear ho
      go_wp2_with fail
      refine (l_Gcd _ _ _ _ _ N0.out D0.out LN.out LD.out).mono ?_
      rintro e w1 ⟨⟨v1, rfl, hv1⟩, hb1⟩
      rw [HG.out] at hv1
      have x1 := hid (x0.out.call hb1)
      have b1 := hid (bnext b0.out hb1)
      have N1 := hid (N0.out.call hb1); have D1 := hid (D0.out.call hb1); have G1 := hid hv1
      clear hb1 hv1
      obtain ⟨a5, c5, rfl, _⟩ := G1.out.openI
      obtain ⟨k5, hk5⟩ : ∃ k, (limbs g).length = k := ⟨_, rfl⟩
      rw [hk5] at G1 ⊢
      clear hk5
      go_wp2_with fail
      refine (l_One _ _ _ G1.out).mono ?_; rintro e w2 ⟨rfl, rfl⟩
      by_cases hg1 : g = 1
      · have ho : isO g = true := isO_iff.2 hg1
        have HG1 := hid (show Nat.gcd n d = 1 by rw [HG.out, hg1])
        rw [ho]
        have d0 := x1.out.cell 0
        have d1 := x1.out.cell 1
        have d2 := x1.out.cell 2
        have e0 := x1.out.free 0
        have e1 := x1.out.free 1
        have e2 := x1.out.free 2
        simp at d0 d1 d2
        clear ho hg1
        go_wp2_with fail
        obtain ⟨s1, s2⟩ := set3 x1.out m a1 a2 k1 c1 k2 c2
        have f0 := s2.cell 0
        have f1 := s2.cell 1
        have f2 := s2.cell 2
        simp at f0 f1 f2
        refine bodyPost_ret (v := .agg #[.bool m, .slice a1 k1 c1, .slice a2 k2 c2]) (by simp [results, Tryz.results100, go_sem, f0, f1, f2]) rfl ⟨⟨_, rfl, qmk_red HP.out H0.out HG1.out (s1 _ _ _ N1.out) (s1 _ _ _ D1.out)⟩, ?_⟩
        exact ((b1.out.setCell (Nat.le_refl _) _).setCell (Nat.le_refl _) _).setCell (Nat.le_refl _) _
      · have ho : isO g = false := by unfold isO; simpa using hg1
        rw [ho]
        clear ho hg1
        go_wp2_with fail
        refine (l_DivMod _ _ _ n g N1.out G1.out HGP.out LN.out).mono ?_
        rintro e w2 ⟨⟨v2, v3, rfl, hv2, -⟩, hb2⟩
        have x2 := hid (x1.out.call hb2); have b2 := hid (bnext b1.out hb2); have D2 := hid (D1.out.call hb2); have G2 := hid (G1.out.call hb2); have V2 := hid hv2
        clear hb2 hv2
        go_wp2_with fail
        refine (l_DivMod _ _ _ d g D2.out G2.out HGP.out LD.out).mono ?_
        rintro e w3 ⟨⟨v4, v5, rfl, hv4, -⟩, hb3⟩
        have x3 := hid (x2.out.call hb3); have b3 := hid (bnext b2.out hb3); have W2 := hid (V2.out.call hb3); have W4 := hid hv4
        clear hb3 hv4
        obtain ⟨a6, c6, rfl, _⟩ := W2.out.openI
        obtain ⟨a7, c7, rfl, _⟩ := W4.out.openI
        have d0 := x3.out.cell 0
        have d1 := x3.out.cell 1
        have d2 := x3.out.cell 2
        have e0 := x3.out.free 0
        have e1 := x3.out.free 1
        have e2 := x3.out.free 2
        simp at d0 d1 d2
        go_wp2_with fail
        obtain ⟨s1, s2⟩ := set3 x3.out m a6 a7 (limbs (n / g)).length c6 (limbs (d / g)).length c7
        have f0 := s2.cell 0
        have f1 := s2.cell 1
        have f2 := s2.cell 2
        simp at f0 f1 f2
        refine bodyPost_ret (v := .agg #[.bool m, .slice a6 (limbs (n / g)).length c6, .slice a7 (limbs (d / g)).length c7]) (by simp [results, Tryz.results100, go_sem, f0, f1, f2]) rfl ⟨⟨_, rfl, IsQ.mk' HP.out H0.out (HG.out ▸ s1 _ _ _ W2.out) (HG.out ▸ s1 _ _ _ W4.out)⟩, ?_⟩
        exact ((b3.out.setCell (Nat.le_refl _) _).setCell (Nat.le_refl _) _).setCell (Nat.le_refl _) _
end Go.Proofs.YtpheklgnmbpobaaGreatDoor
namespace Go.Proofs.YtpheklgnmbpobaaGreatDoor
open Go.RowKit
open Go.Lib (decDigits nDigits)
set_option linter.unusedVariables false
set_option linter.unusedSimpArgs false
theorem outB_ov {q : Rat} (h : ovQ q) : outB q = ⟨#[]⟩ := if_pos h
theorem outB_ok {q : Rat} (h : ¬ ovQ q) : outB q = txQ q := if_neg h
theorem outE_ov {q : Rat} (h : ovQ q) : outE q = 5 := if_pos h
theorem outE_ok {q : Rat} (h : ¬ ovQ q) : outE q = 0 := if_neg h
theorem ba_append (a b : ByteArray) : (a ++ b).data.toList = a.data.toList ++ b.data.toList := by simp
theorem txB_ff (n : Nat) : txB false n 1 = numB n := by apply ba_ext; simp [txB, numB]
theorem txB_tf (n : Nat) : txB true n 1 = ⟨#[45]⟩ ++ numB n := by apply ba_ext; rw [ba_append, txB_list, numB_list]; simp
theorem txB_ft (n d : Nat) (h : d ≠ 1) : txB false n d = numB n ++ (⟨#[47]⟩ ++ numB d) := by apply ba_ext; rw [ba_append, ba_append, txB_list, numB_list, numB_list, if_neg h]; simp
theorem txB_tt (n d : Nat) (h : d ≠ 1) : txB true n d = ⟨#[45]⟩ ++ numB n ++ (⟨#[47]⟩ ++ numB d) := by apply ba_ext; rw [ba_append, ba_append, ba_append, txB_list, numB_list, numB_list, if_neg h]; simp
set_option maxRecDepth 100000 in
set_option maxHeartbeats 2000000 in
theorem f_Num (w : World) (v : Value) (q : Rat) (h : IsQ .u64 w v q) (h1 : (limbs q.num.natAbs).length ≤ 1000000) (h2 : (limbs q.den).length ≤ 1000000) (hL : Lay w) :
    Calls Tryz.prog 101 #[v] w fun e w' => e = .returned (.tuple #[.string (outB q), .int .i64 (outE q)]) ∧ Below w.heap.size w w' := by
  obtain ⟨N, D, rfl, hn, hd⟩ := h.ex
  obtain ⟨m, hm⟩ : ∃ m, decide (q.num < 0) = m := ⟨_, rfl⟩
  have HN := hid hn; have HD := hid hd; have HM := hid hm; have HL := hid hL; have L1 := hid h1; have L2 := hid h2
  rw [hm]
  obtain ⟨a1, c1, rfl, _⟩ := hn.openI
  obtain ⟨a2, c2, rfl, _⟩ := hd.openI
  obtain ⟨k1, hk1⟩ : ∃ k, (limbs q.num.natAbs).length = k := ⟨_, rfl⟩
  obtain ⟨k2, hk2⟩ : ∃ k, (limbs q.den).length = k := ⟨_, rfl⟩
  rw [hk1] at HN ⊢
  rw [hk2] at HD ⊢
  have b0 := hid ((Below.refl w.heap.size w).alloc (Nat.le_refl _) (.cells #[.bool m, .slice a1 k1 c1, .slice a2 k2 c2] 129))
  have x0 := hid (Blk.new w #[.bool m, .slice a1 k1 c1, .slice a2 k2 c2] 129)
  have N0 := hid (HN.out.call b0.out); have D0 := hid (HD.out.call b0.out)
  clear hn hd hm h hk1 hk2 hL h1 h2
  by_cases o1 : 4000 < nDigits q.num.natAbs
  · have ho : ovQ q := .inl o1
    rw [outB_ov ho, outE_ov ho]
    have q0 : decide ((4000 : Int) < (nDigits q.num.natAbs : Nat)) = true := by simp; omega
    clear o1 ho
    go_enter Tryz.func101, Tryz.ntmps101
    go_wp2_with fail
    refine (l_Digits _ _ _ N0.out (HL.out.call b0.out) L1.out).mono ?_; rintro e w1 ⟨rfl, hb1⟩
    have b1 := hid (bnext b0.out hb1); clear hb1
    go_wp2_with fail
    go_ret2
    exact ⟨rfl, b1.out⟩
  · have q0 : decide ((4000 : Int) < (nDigits q.num.natAbs : Nat)) = false := by simp; omega
    by_cases o2 : 4000 < nDigits q.den
    · have ho : ovQ q := .inr o2
      rw [outB_ov ho, outE_ov ho]
      have q1 : decide ((4000 : Int) < (nDigits q.den : Nat)) = true := by simp; omega
      clear o1 ho o2
      go_enter Tryz.func101, Tryz.ntmps101
      go_wp2_with fail
      refine (l_Digits _ _ _ N0.out (HL.out.call b0.out) L1.out).mono ?_; rintro e w1 ⟨rfl, hb1⟩
      have b1 := hid (bnext b0.out hb1); have D1 := hid (D0.out.call hb1)
      have x1 := x0.out.call hb1
      have r2 := x1.cell 2
      simp at r2
      clear hb1 x1
      go_wp2_with fail
      refine (l_Digits _ _ _ D1.out (HL.out.call b1.out) L2.out).mono ?_; rintro e w2 ⟨rfl, hb2⟩
      have b2 := hid (bnext b1.out hb2); clear hb2 r2
      go_wp2_with fail
      go_ret2
      exact ⟨rfl, b2.out⟩
    · have ho : ¬ ovQ q := fun h => h.elim o1 o2
      rw [outB_ok ho, outE_ok ho]
      have q1 : decide ((4000 : Int) < (nDigits q.den : Nat)) = false := by simp; omega
      obtain ⟨z, hz⟩ : ∃ z, isO q.den = z := ⟨_, rfl⟩
      have HO := fun W h => hid (l_One W (.slice a2 k2 c2) q.den h)
      rw [hz] at HO
      have HT : Hid (txQ q = txB m q.num.natAbs q.den) := by rw [← HM.out]; rfl
      have HZ := hid hz
      rw [HT.out]
      obtain ⟨T, hT⟩ : ∃ T, txB m q.num.natAbs q.den = T := ⟨_, rfl⟩
      have HTT := hid hT
      rw [hT]
      have HS1 := fun W hv hL => hid (l_String W (.slice a1 k1 c1) q.num.natAbs hv hL L1.out)
      have HS2 := fun W hv hL => hid (l_String W (.slice a2 k2 c2) q.den hv hL L2.out)
      have en : (⟨(Lib.decDigits q.num.natAbs).toArray⟩ : ByteArray) = numB q.num.natAbs := rfl
      have ed : (⟨(Lib.decDigits q.den).toArray⟩ : ByteArray) = numB q.den := rfl
      rw [en] at HS1
      rw [ed] at HS2
      obtain ⟨sn, hsn⟩ : ∃ s, numB q.num.natAbs = s := ⟨_, rfl⟩
      obtain ⟨sd, hsd⟩ : ∃ s, numB q.den = s := ⟨_, rfl⟩
      rw [hsn] at HS1
      rw [hsd] at HS2
      have HSN := hid hsn; have HSD := hid hsd
      have hs1 : sn.size ≤ 4000 := by rw [← hsn, numB_size]; omega
      have hs2 : sd.size ≤ 4000 := by rw [← hsd, numB_size]; omega
      clear o1 ho o2 hT hz en ed hsn hsd
      go_enter Tryz.func101, Tryz.ntmps101
      go_wp2_with fail
      refine (l_Digits _ _ _ N0.out (HL.out.call b0.out) L1.out).mono ?_; rintro e w1 ⟨rfl, hb1⟩
      have b1 := hid (bnext b0.out hb1); have D1 := hid (D0.out.call hb1); have x1 := hid (x0.out.call hb1); have N1 := hid (N0.out.call hb1)
      have r2 := x1.out.cell 2
      simp at r2
      clear hb1
      go_wp2_with fail
      refine (l_Digits _ _ _ D1.out (HL.out.call b1.out) L2.out).mono ?_; rintro e w2 ⟨rfl, hb2⟩
      have b2 := hid (bnext b1.out hb2); have D2 := hid (D1.out.call hb2); have x2 := hid (x1.out.call hb2); have N2 := hid (N1.out.call hb2)
      have r1 := x2.out.cell 1
      simp at r1
      clear hb2 r2
      go_wp2_with fail
      refine (HS1 _ N2.out (HL.out.call b2.out)).out.mono ?_; rintro e w3 ⟨rfl, hb3⟩
      have b3 := hid (bnext b2.out hb3); have D3 := hid (D2.out.call hb3); have x3 := hid (x2.out.call hb3)
      have r0 := x3.out.cell 0
      have r2 := x3.out.cell 2
      simp at r0 r2
      clear hb3 r1 HS1
      cases m
      · go_wp2_with fail
        refine (HO _ D3.out).out.mono ?_; rintro e w4 ⟨rfl, rfl⟩
        cases z
        · go_wp2_with fail
          refine (HS2 _ D3.out (HL.out.call b3.out)).out.mono ?_; rintro e w5 ⟨rfl, hb5⟩
          have b5 := hid (bnext b3.out hb5); clear hb5 r0 r2
          go_wp2_with fail
          go_ret2
          have hTe : T = sn ++ (⟨#[47]⟩ ++ sd) := by rw [← HTT.out, txB_ft _ _ (of_decide_eq_false HZ.out), HSN.out, HSD.out]
          exact ⟨by rw [hTe]; rfl, b5.out⟩
        · go_wp2_with fail
          go_ret2
          have hTe : T = sn := by rw [← HTT.out, isO_iff.1 HZ.out, txB_ff, HSN.out]
          exact ⟨by rw [hTe]; rfl, b3.out⟩
      · go_wp2_with fail
        refine (HO _ D3.out).out.mono ?_; rintro e w4 ⟨rfl, rfl⟩
        cases z
        · go_wp2_with fail
          refine (HS2 _ D3.out (HL.out.call b3.out)).out.mono ?_; rintro e w5 ⟨rfl, hb5⟩
          have b5 := hid (bnext b3.out hb5); clear hb5 r0 r2
          go_wp2_with fail
          go_ret2
          have hTe : T = ⟨#[45]⟩ ++ sn ++ (⟨#[47]⟩ ++ sd) := by rw [← HTT.out, txB_tt _ _ (of_decide_eq_false HZ.out), HSN.out, HSD.out]
          exact ⟨by rw [hTe]; rfl, b5.out⟩
        · go_wp2_with fail
          go_ret2
          have hTe : T = ⟨#[45]⟩ ++ sn := by rw [← HTT.out, isO_iff.1 HZ.out, txB_tf, HSN.out]
          exact ⟨by rw [hTe]; rfl, b3.out⟩
end Go.Proofs.YtpheklgnmbpobaaGreatDoor
