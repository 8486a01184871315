/- Walks: geom.sure, not, under, share. -/
import Derived.Test.YtikfgddgfddbaaaGreatDoorMs7
import Derived.Laws.IdiomStrings
import Derived.WalkSpells
import Derived.IntWalk
import Derived.Deep.DeepCutAuto
import Derived.Deep.CutBlock
namespace Go.Proofs.YtikfgddgfddbaaaGreatDoor
open Go.RowKit Go.Shelf
open Go.Lib (decDigits nDigits)
set_option linter.unusedVariables false
set_option linter.unusedSimpArgs false

theorem txQ_size {q : Rat} (h : ¬ ovQ q) : (txQ q).size ≤ 10000 := by
  unfold ovQ at h
  have h1 := list_size (txQ q)
  unfold txQ at h1 ⊢
  rw [txB_list] at h1
  rw [← h1]
  simp only [List.length_append, Lib.decDigits_length]
  have e1 : (if decide (q.num < 0) = true then [45] else ([] : List UInt8)).length ≤ 1 := by split <;> simp
  have e2 : (if q.den = 1 then [] else (47 : UInt8) :: decDigits q.den).length ≤ 4001 := by
    split
    · simp
    · simp only [List.length_cons, Lib.decDigits_length]; omega
  omega

theorem op2_fits {f : Rat → Rat → Rat} {p q : Rat} (hp : ¬ ovQ p) (hq : ¬ ovQ q) (h : ¬ ovQ (f p q)) : op2B f (txQ p) (txQ q) = txQ (f p q) ∧ op2E f (txQ p) (txQ q) = 0 := by
  have h1 := qE_txQ hp
  have h2 := qE_txQ hq
  refine ⟨?_, ?_⟩
  · rw [op2B, if_pos ⟨h1, h2⟩, vQ_txQ, vQ_txQ, outB_fits h]
  · rw [op2E, if_pos h1, if_pos h2, vQ_txQ, vQ_txQ, outE_fits h]
theorem inv_fits {q : Rat} (hq : ¬ ovQ q) (h0 : q ≠ 0) (h : ¬ ovQ (1 / q)) : ivB (txQ q) = txQ (1 / q) ∧ ivE (txQ q) = 0 := by
  have h1 := qE_txQ hq
  have h2 : qE ⟨#[49]⟩ = 0 := qE_t1
  have h3 : vQ ⟨#[49]⟩ = 1 := vQ_t1
  unfold ivB ivE tB tE wB wE dvB dvE
  rw [if_pos h2, if_pos h1, if_pos h2, if_pos h1, h3, vQ_txQ, if_neg h0, if_neg h0, outB_fits h, outE_fits h]
  exact ⟨rfl, rfl⟩

/-- What a factor does: from a ratio's text to a number's text. -/
def FacOk (F : Nat) (f : Rat → Rat) : Prop := ∀ (w : World) (a : ByteArray), a.size ≤ 100000 → gPE a = 0 → Lay w →
  Calls Tryz.prog F #[.string a] w fun e w' => e = .returned (.string (txQ (f (vQ a)))) ∧ Below w.heap.size w w'

theorem g_sure : FacOk 38 (fun _ => 1) := by
  intro w a ha hg hL
  have e1 : txQ 1 = ⟨#[49]⟩ := t1_tx.symm
  rw [e1]
  clear e1 ha hg hL
  go_enter Tryz.func38, Tryz.ntmps38
  go_wp2_with fail
  go_ret
  exact ⟨rfl, Below.refl _ _⟩

set_option maxRecDepth 100000 in
set_option maxHeartbeats 1000000 in
theorem g_not : FacOk 33 fNot := by
  intro w a ha hg hL
  obtain ⟨h1, h2, h3, h4⟩ := ratio_is hg
  have H := hid (q_Sub w t1 a (by decide) (by omega) hL)
  have ea := vQ_text h1
  have o := op2_fits (f := (· - ·)) fits_one (h4.fits (by omega) (by omega)) ((dig_not h4).fits (by omega) (by omega))
  rw [← t1_tx, ← ea] at o
  rw [o.1, o.2] at H
  obtain ⟨B, hB⟩ : ∃ B, txQ (fNot (vQ a)) = B := ⟨_, rfl⟩
  have hB' : txQ (1 - vQ a) = B := hB
  rw [hB'] at H
  rw [hB]
  unfold t1 at H
  clear ha hg hL h1 h2 h3 h4 ea o hB hB'
  go_enter Tryz.func33, Tryz.ntmps33
  go_wp2_with fail
  refine H.out.mono ?_; rintro e w1 ⟨rfl, hb1⟩
  have y1 := hid hb1; clear hb1
  go_wp2_with fail
  go_ret
  exact ⟨rfl, y1.out⟩

set_option maxRecDepth 100000 in
set_option maxHeartbeats 1000000 in
theorem g_under : FacOk 40 fUnder := by
  intro w a ha hg hL
  obtain ⟨h1, h2, h3, h4⟩ := ratio_is hg
  have H := hid (q_Add w t1 a (by decide) (by omega) hL)
  have ea := vQ_text h1
  have f1 : ¬ ovQ (1 + vQ a) := (dig_add dig_one h4).fits (by omega) (by omega)
  have o := op2_fits (f := (· + ·)) fits_one (h4.fits (by omega) (by omega)) f1
  rw [← t1_tx, ← ea] at o
  rw [o.1, o.2] at H
  have H2 := fun V hV => hid (q_Inv V (txQ (1 + vQ a)) (Nat.le_trans (txQ_size f1) (by omega)) hV)
  have o2 := inv_fits f1 (one_plus h2) ((dig_under h4 h2).fits (by omega) (by omega))
  rw [o2.1, o2.2] at H2
  obtain ⟨B, hB⟩ : ∃ B, txQ (fUnder (vQ a)) = B := ⟨_, rfl⟩
  have hB' : txQ (1 / (1 + vQ a)) = B := hB
  rw [hB'] at H2
  rw [hB]
  obtain ⟨C, hC⟩ : ∃ C, txQ (1 + vQ a) = C := ⟨_, rfl⟩
  rw [hC] at H2
  have hC' : txQ ((fun x y => x + y) 1 (vQ a)) = C := hC
  simp only at H hC'
  rw [hC] at H
  unfold t1 at H
  have HL := hid hL
  clear ha hg hL h1 h2 h3 h4 ea o o2 hB hB' f1 hC hC'
  go_enter Tryz.func40, Tryz.ntmps40
  go_wp2_with fail
  refine H.out.mono ?_; rintro e w1 ⟨rfl, hb1⟩
  have y1 := hid hb1; clear hb1
  go_wp2_with fail
  refine (H2 _ (HL.out.call y1.out)).out.mono ?_; rintro e w2 ⟨rfl, hb2⟩
  have y2 := hid (bnext y1.out hb2); clear hb2
  go_wp2_with fail
  go_ret
  exact ⟨rfl, y2.out⟩

set_option maxRecDepth 100000 in
set_option maxHeartbeats 1000000 in
theorem g_share : FacOk 36 fShare := by
  intro w a ha hg hL
  obtain ⟨h1, h2, h3, h4⟩ := ratio_is hg
  have fn : ¬ ovQ (fNot (vQ a)) := (dig_not h4).fits (by omega) (by omega)
  have fu : ¬ ovQ (fUnder (vQ a)) := (dig_under h4 h2).fits (by omega) (by omega)
  have F1 := fun V hV => hid (g_not V a ha hg hV)
  have F2 := fun V hV => hid (g_under V a ha hg hV)
  have H := fun V hV => hid (q_Mul V (txQ (fNot (vQ a))) (txQ (fUnder (vQ a))) (Nat.le_trans (txQ_size fn) (by omega)) (Nat.le_trans (txQ_size fu) (by omega)) hV)
  have o := op2_fits (f := (· * ·)) fn fu ((dig_share h4 h2).fits (by omega) (by omega))
  rw [o.1, o.2] at H
  obtain ⟨B, hB⟩ : ∃ B, txQ (fShare (vQ a)) = B := ⟨_, rfl⟩
  have hB' : txQ (fNot (vQ a) * fUnder (vQ a)) = B := hB
  simp only [hB'] at H
  rw [hB]
  obtain ⟨C, hC⟩ : ∃ C, txQ (fNot (vQ a)) = C := ⟨_, rfl⟩
  obtain ⟨D, hD⟩ : ∃ D, txQ (fUnder (vQ a)) = D := ⟨_, rfl⟩
  rw [hC] at H F1
  rw [hD] at H F2
  have HL := hid hL
  clear ha hg hL h1 h2 h3 h4 o hB hB' fn fu hC hD
  go_enter Tryz.func36, Tryz.ntmps36
  go_wp2_with fail
  refine (F1 _ HL.out).out.mono ?_; rintro e w1 ⟨rfl, hb1⟩
  have y1 := hid hb1; clear hb1
  go_wp2_with fail
  refine (F2 _ (HL.out.call y1.out)).out.mono ?_; rintro e w2 ⟨rfl, hb2⟩
  have y2 := hid (bnext y1.out hb2); clear hb2
  go_wp2_with fail
  refine (H _ (HL.out.call y2.out)).out.mono ?_; rintro e w3 ⟨rfl, hb3⟩
  have y3 := hid (bnext y2.out hb3); clear hb3
  go_wp2_with fail
  go_ret
  exact ⟨rfl, y3.out⟩
end Go.Proofs.YtikfgddgfddbaaaGreatDoor

/- Walks: the closure that geom.formula gives back. -/
namespace Go.Proofs.YtikfgddgfddbaaaGreatDoor
open Go.RowKit Go.Shelf
open Go.Lib (decDigits nDigits)
set_option linter.unusedVariables false
set_option linter.unusedSimpArgs false

/-- The text and the error of a factor times a power, or of what is left of 1. -/
def frB (f : Rat → Rat) (m : Nat) (rest : Bool) (A : Rat) : ByteArray :=
  if ovQ (A ^ m) then ⟨#[]⟩ else if ovQ (f A * A ^ m) then ⟨#[]⟩ else if rest = true then outB (1 - f A * A ^ m) else txQ (f A * A ^ m)
def frE (f : Rat → Rat) (m : Nat) (rest : Bool) (A : Rat) : Int :=
  if ovQ (A ^ m) then 5 else if ovQ (f A * A ^ m) then 5 else if rest = true then outE (1 - f A * A ^ m) else 0

theorem eql_nil (fn : Fn) (bs cs : Array Value) (W : World) : (binOp BinOp.eql 57 (.func fn bs cs) .nilFunc).run Tryz.prog W = .ok (.bool false) W := by
  kernel_rfl
theorem eql_nil2 (W : World) : (binOp BinOp.eql 57 .nilFunc .nilFunc).run Tryz.prog W = .ok (.bool true) W := by
  kernel_rfl

def ByOk (F : Nat) (k m : Int) (fac : Value) (rest : Bool) : Prop := ∀ w : World,
  Calls Tryz.prog F #[.int .i64 k] w fun e w' => e = .returned (.tuple #[.int .i64 m, fac, .bool rest]) ∧ w' = w

set_option maxRecDepth 100000 in
set_option maxHeartbeats 1000000 in
theorem fo_bad (w : World) (a : ByteArray) (k : Int) (g : Nat) (ha : a.size ≤ 100000) (hg : gPE a ≠ 0) (hL : Lay w) :
    Calls Tryz.prog 65 #[.string a, .int .i64 k, .pointer (some ⟨g, 0, none⟩)] w fun e w' => e = .returned (.tuple #[.string ⟨#[]⟩, .int .i64 (gPE a)]) ∧ Below w.heap.size w w' := by
  have HR := hid (g_ratio w a ha hL)
  rw [if_neg hg, if_neg hg] at HR
  obtain ⟨x, hx⟩ : ∃ x, gPE a = x := ⟨_, rfl⟩
  rw [hx] at HR hg ⊢
  have q0 : (x == 0) = false := by simpa using hg
  have q1 : (x != 0) = true := by simpa using hg
  clear ha hg hL hx
  go_enter Tryz.func65, Tryz.ntmps65
  go_wp2_with fail
  refine HR.out.mono ?_; rintro e w1 ⟨rfl, hb1⟩
  have y1 := hid hb1; clear hb1
  go_wp2_with fail
  go_ret2
  exact ⟨rfl, y1.out⟩

set_option maxRecDepth 100000 in
set_option maxHeartbeats 1000000 in
theorem fo_far (w : World) (a : ByteArray) (k : Int) (g : Nat) (ha : a.size ≤ 100000) (hg : gPE a = 0) (hk : k < -10000 ∨ 10000 < k) (hL : Lay w) :
    Calls Tryz.prog 65 #[.string a, .int .i64 k, .pointer (some ⟨g, 0, none⟩)] w fun e w' => e = .returned (.tuple #[.string ⟨#[]⟩, .int .i64 2]) ∧ Below w.heap.size w w' := by
  have HR := hid (g_ratio w a ha hL)
  rw [hg, if_pos rfl, if_pos rfl] at HR
  clear ha hg hL
  rcases Int.lt_or_le k (-10000) with h | h
  · have q0 : decide (k < -10000) = true := by simpa using h
    clear hk h
    go_enter Tryz.func65, Tryz.ntmps65
    go_wp2_with fail
    refine HR.out.mono ?_; rintro e w1 ⟨rfl, hb1⟩
    have y1 := hid hb1; clear hb1
    go_wp2_with fail
    go_ret2
    exact ⟨rfl, y1.out⟩
  · have q0 : decide (k < -10000) = false := by simp; omega
    have q1 : decide (10000 < k) = true := by simp; omega
    clear hk h
    go_enter Tryz.func65, Tryz.ntmps65
    go_wp2_with fail
    refine HR.out.mono ?_; rintro e w1 ⟨rfl, hb1⟩
    have y1 := hid hb1; clear hb1
    go_wp2_with fail
    go_ret2
    exact ⟨rfl, y1.out⟩

set_option maxRecDepth 100000 in
set_option maxHeartbeats 1000000 in
theorem fo_nil (w : World) (a : ByteArray) (k : Int) (m : Nat) (g F : Nat) (rest : Bool) (ha : a.size ≤ 100000) (hg : gPE a = 0) (hk : -10000 ≤ k ∧ k ≤ 10000) (hm : m ≤ 1) (hL : Lay w)
    (hen : ∀ args w, (callFunc F args).run Tryz.prog w = .ok (.enter F args) w) (hc : w.cell? ⟨g, 0, none⟩ = some (.func (.func F) #[] #[])) (hF : ByOk F k m .nilFunc rest) :
    Calls Tryz.prog 65 #[.string a, .int .i64 k, .pointer (some ⟨g, 0, none⟩)] w fun e w' => e = .returned (.tuple #[.string (numB m), .int .i64 0]) ∧ Below w.heap.size w w' := by
  have HR := hid (g_ratio w a ha hL)
  rw [hg, if_pos rfl, if_pos rfl] at HR
  have HF := hid hF
  have HL := hid hL
  have HC := hid hc
  have q0 : decide (k < -10000) = false := by simp; omega
  have q1 : decide (10000 < k) = false := by simp; omega
  have HI := fun V (hV : Lay V) => hid (Tryz.strconv_Itoa (m : Int) (by omega) (by omega) V hV.tab)
  have en : (⟨(Lib.itoa (m : Int)).toArray⟩ : ByteArray) = numB m := by
    unfold numB Lib.itoa
    rw [if_neg (by omega)]
    rfl
  rw [en] at HI
  clear ha hg hL hc hF hk hm en
  have hq2 := fun (W : World) => eql_nil2 W
  go_enter Tryz.func65, Tryz.ntmps65
  go_wp2_with fail
  refine HR.out.mono ?_; rintro e w1 ⟨rfl, hb1⟩
  have y1 := hid hb1
  have c1 := (hb1.cell (cell_lt HC.out)).trans HC.out
  clear hb1
  go_wp2_with fail
  refine (HF.out _).mono ?_; rintro e w2 ⟨rfl, rfl⟩
  go_wp2_with fail
  refine (HI _ (HL.out.call y1.out)).out.mono ?_; rintro e w3 ⟨rfl, kk, os, hw3⟩
  have b3 : Below w2.heap.size w2 w3 := by rw [hw3]; exact below_grow _ _ _
  have y3 := hid (bnext y1.out b3); clear b3 hw3
  go_wp2_with fail
  go_ret2
  exact ⟨rfl, y3.out⟩
end Go.Proofs.YtikfgddgfddbaaaGreatDoor

/- Walks: the closure that geom.formula gives back, where a power is multiplied. -/
namespace Go.Proofs.YtikfgddgfddbaaaGreatDoor
open Go.RowKit Go.Shelf
open Go.Lib (decDigits nDigits)
set_option linter.unusedVariables false
set_option linter.unusedSimpArgs false

/-- The text and the error where the sub is not told: the steps of the program on texts. -/
def st1B (y : ByteArray) (m : Nat) (a : ByteArray) : ByteArray := if pwE m a = 0 then op2B (· * ·) y (pwB m a) else pwB m a
def st1E (y : ByteArray) (m : Nat) (a : ByteArray) : Int := if pwE m a = 0 then op2E (· * ·) y (pwB m a) else pwE m a
def st2B (y : ByteArray) (m : Nat) (rest : Bool) (a : ByteArray) : ByteArray := if st1E y m a = 0 ∧ rest = true then op2B (· - ·) t1 (st1B y m a) else st1B y m a
def st2E (y : ByteArray) (m : Nat) (rest : Bool) (a : ByteArray) : Int := if st1E y m a = 0 ∧ rest = true then op2E (· - ·) t1 (st1B y m a) else st1E y m a

theorem st_is {a : ByteArray} {f : Rat → Rat} {m : Nat} {rest : Bool} (ha : qE a = 0) (hf : ¬ ovQ (f (vQ a))) : st2B (txQ (f (vQ a))) m rest a = frB f m rest (vQ a) ∧ st2E (txQ (f (vQ a))) m rest a = frE f m rest (vQ a) := by
  have e1 : pwB m a = outB (vQ a ^ m) := if_pos ha
  have e2 : pwE m a = outE (vQ a ^ m) := if_pos ha
  unfold st2B st2E st1B st1E frB frE
  rw [e1, e2]
  by_cases hp : ovQ (vQ a ^ m)
  · have h1 : outE (vQ a ^ m) = 5 := if_pos hp
    have h2 : outB (vQ a ^ m) = ⟨#[]⟩ := if_pos hp
    simp [h1, h2, hp]
  · have h1 := outE_fits hp
    have h2 := outB_fits hp
    have q1 := qE_txQ hf
    have q2 := qE_txQ hp
    rw [h1, h2]
    have o1 : op2B (· * ·) (txQ (f (vQ a))) (txQ (vQ a ^ m)) = outB (f (vQ a) * vQ a ^ m) := by rw [op2B, if_pos ⟨q1, q2⟩, vQ_txQ, vQ_txQ]
    have o2 : op2E (· * ·) (txQ (f (vQ a))) (txQ (vQ a ^ m)) = outE (f (vQ a) * vQ a ^ m) := by rw [op2E, if_pos q1, if_pos q2, vQ_txQ, vQ_txQ]
    rw [if_pos rfl, if_pos rfl, o1, o2, if_neg hp, if_neg hp]
    by_cases hm : ovQ (f (vQ a) * vQ a ^ m)
    · have h3 : outE (f (vQ a) * vQ a ^ m) = 5 := if_pos hm
      have h4 : outB (f (vQ a) * vQ a ^ m) = ⟨#[]⟩ := if_pos hm
      simp [h3, h4, hm]
    · have h3 := outE_fits hm
      have h4 := outB_fits hm
      rw [h3, h4, if_neg hm, if_neg hm]
      cases rest
      · simp
      · have o3 : op2B (· - ·) t1 (txQ (f (vQ a) * vQ a ^ m)) = outB (1 - f (vQ a) * vQ a ^ m) := by rw [op2B, if_pos ⟨qE_t1, qE_txQ hm⟩, vQ_txQ, vQ_t1]
        have o4 : op2E (· - ·) t1 (txQ (f (vQ a) * vQ a ^ m)) = outE (1 - f (vQ a) * vQ a ^ m) := by rw [op2E, if_pos qE_t1, if_pos (qE_txQ hm), vQ_txQ, vQ_t1]
        simp [o3, o4]

theorem outB_size (q : Rat) : (outB q).size ≤ 10000 := by
  unfold outB
  split
  · decide
  · rename_i h; exact txQ_size h
theorem pwB_size (m : Nat) (a : ByteArray) : (pwB m a).size ≤ 10000 := by
  unfold pwB op1B
  split
  · exact outB_size _
  · decide
theorem op2B_size (f : Rat → Rat → Rat) (s t : ByteArray) : (op2B f s t).size ≤ 10000 := by
  unfold op2B
  split
  · exact outB_size _
  · decide

set_option maxRecDepth 100000 in
set_option maxHeartbeats 2000000 in
theorem fo_pow0 (w : World) (a : ByteArray) (k : Int) (m : Nat) (g F G : Nat) (f : Rat → Rat) (rest : Bool) (ha : a.size ≤ 100000) (hg : gPE a = 0) (hk : -10000 ≤ k ∧ k ≤ 10000) (hm : m ≤ 100000) (hf : ¬ ovQ (f (vQ a))) (hL : Lay w)
    (hen : ∀ args w, (callFunc F args).run Tryz.prog w = .ok (.enter F args) w) (heng : ∀ args w, (callFunc G args).run Tryz.prog w = .ok (.enter G args) w)
    (hc : w.cell? ⟨g, 0, none⟩ = some (.func (.func F) #[] #[])) (hF : ByOk F k m (.func (.func G) #[] #[]) rest) (hG : FacOk G f) :
    Calls Tryz.prog 65 #[.string a, .int .i64 k, .pointer (some ⟨g, 0, none⟩)] w fun e w' => e = .returned (.tuple #[.string (st2B (txQ (f (vQ a))) m rest a), .int .i64 (st2E (txQ (f (vQ a))) m rest a)]) ∧ Below w.heap.size w w' := by
  have HR := hid (g_ratio w a ha hL)
  rw [hg, if_pos rfl, if_pos rfl] at HR
  have HF := hid hF
  have HG := fun V hV => hid (hG V a ha hg hV)
  have HP := fun V hV => hid (q_Pow V a m (by omega) (by omega) hV)
  obtain ⟨y, hy⟩ : ∃ y, txQ (f (vQ a)) = y := ⟨_, rfl⟩
  have hys : y.size ≤ 1000000 := by rw [← hy]; exact Nat.le_trans (txQ_size hf) (by omega)
  have HM := fun V hV => hid (q_Mul V y (pwB m a) hys (Nat.le_trans (pwB_size m a) (by omega)) hV)
  have HS := fun V hV => hid (q_Sub V t1 (op2B (· * ·) y (pwB m a)) (by decide) (Nat.le_trans (op2B_size _ _ _) (by omega)) hV)
  rw [hy] at HG ⊢
  unfold st2B st2E st1B st1E
  obtain ⟨x0, hx0⟩ : ∃ x, pwB m a = x := ⟨_, rfl⟩
  obtain ⟨e0, he0⟩ : ∃ x, pwE m a = x := ⟨_, rfl⟩
  rw [hx0, he0] at HP
  rw [hx0] at HM HS ⊢
  rw [he0]
  obtain ⟨x1, hx1⟩ : ∃ x, op2B (· * ·) y x0 = x := ⟨_, rfl⟩
  obtain ⟨e1, he1⟩ : ∃ x, op2E (· * ·) y x0 = x := ⟨_, rfl⟩
  rw [hx1, he1] at HM
  rw [hx1] at HS ⊢
  rw [he1]
  obtain ⟨x2, hx2⟩ : ∃ x, op2B (· - ·) t1 x1 = x := ⟨_, rfl⟩
  obtain ⟨e2, he2⟩ : ∃ x, op2E (· - ·) t1 x1 = x := ⟨_, rfl⟩
  rw [hx2, he2] at HS
  unfold t1 at HS
  have HL := hid hL
  have HC := hid hc
  have q0 : decide (k < -10000) = false := by simp; omega
  have q1 : decide (10000 < k) = false := by simp; omega
  have hq1 := fun (fn : Fn) (bs cs : Array Value) (W : World) => eql_nil fn bs cs W
  by_cases h0 : e0 = 0
  · subst h0
    rw [if_pos rfl, if_pos rfl, hx2, he2]
    by_cases h1 : e1 = 0
    · subst h1
      cases rest
      · rw [if_neg (by simp), if_neg (by simp)]
        clear ha hg hL hc hF hG hk hm hf hy hys hx0 he0 hx1 he1 hx2 he2
        go_enter Tryz.func65, Tryz.ntmps65
        go_wp2_with fail
        refine HR.out.mono ?_; rintro e w1 ⟨rfl, hb1⟩
        have y1 := hid hb1
        have c1 := (hb1.cell (cell_lt HC.out)).trans HC.out
        clear hb1
        go_wp2_with fail
        refine (HF.out _).mono ?_; rintro e w2 ⟨rfl, rfl⟩
        go_wp2_with fail
        refine (HP _ (HL.out.call y1.out)).out.mono ?_; rintro e w3 ⟨rfl, hb3⟩
        have y3 := hid (bnext y1.out hb3); clear hb3
        go_wp2_with fail
        refine (HG _ (HL.out.call y3.out)).out.mono ?_; rintro e w4 ⟨rfl, hb4⟩
        have y4 := hid (bnext y3.out hb4); clear hb4
        go_wp2_with fail
        refine (HM _ (HL.out.call y4.out)).out.mono ?_; rintro e w5 ⟨rfl, hb5⟩
        have y5 := hid (bnext y4.out hb5); clear hb5
        go_wp2_with fail
        go_ret2
        exact ⟨rfl, y5.out⟩
      · rw [if_pos ⟨rfl, rfl⟩, if_pos ⟨rfl, rfl⟩]
        clear ha hg hL hc hF hG hk hm hf hy hys hx0 he0 hx1 he1 hx2 he2
        go_enter Tryz.func65, Tryz.ntmps65
        go_wp2_with fail
        refine HR.out.mono ?_; rintro e w1 ⟨rfl, hb1⟩
        have y1 := hid hb1
        have c1 := (hb1.cell (cell_lt HC.out)).trans HC.out
        clear hb1
        go_wp2_with fail
        refine (HF.out _).mono ?_; rintro e w2 ⟨rfl, rfl⟩
        go_wp2_with fail
        refine (HP _ (HL.out.call y1.out)).out.mono ?_; rintro e w3 ⟨rfl, hb3⟩
        have y3 := hid (bnext y1.out hb3); clear hb3
        go_wp2_with fail
        refine (HG _ (HL.out.call y3.out)).out.mono ?_; rintro e w4 ⟨rfl, hb4⟩
        have y4 := hid (bnext y3.out hb4); clear hb4
        go_wp2_with fail
        refine (HM _ (HL.out.call y4.out)).out.mono ?_; rintro e w5 ⟨rfl, hb5⟩
        have y5 := hid (bnext y4.out hb5); clear hb5
        go_wp2_with fail
        refine (HS _ (HL.out.call y5.out)).out.mono ?_; rintro e w6 ⟨rfl, hb6⟩
        have y6 := hid (bnext y5.out hb6); clear hb6
        go_wp2_with fail
        go_ret2
        exact ⟨rfl, y6.out⟩
    · rw [if_neg (fun h => h1 h.1), if_neg (fun h => h1 h.1)]
      have q2 : (e1 == 0) = false := by simpa using h1
      clear ha hg hL hc hF hG hk hm hf hy hys hx0 he0 hx1 he1 hx2 he2 h1
      go_enter Tryz.func65, Tryz.ntmps65
      go_wp2_with fail
      refine HR.out.mono ?_; rintro e w1 ⟨rfl, hb1⟩
      have y1 := hid hb1
      have c1 := (hb1.cell (cell_lt HC.out)).trans HC.out
      clear hb1
      go_wp2_with fail
      refine (HF.out _).mono ?_; rintro e w2 ⟨rfl, rfl⟩
      go_wp2_with fail
      refine (HP _ (HL.out.call y1.out)).out.mono ?_; rintro e w3 ⟨rfl, hb3⟩
      have y3 := hid (bnext y1.out hb3); clear hb3
      go_wp2_with fail
      refine (HG _ (HL.out.call y3.out)).out.mono ?_; rintro e w4 ⟨rfl, hb4⟩
      have y4 := hid (bnext y3.out hb4); clear hb4
      go_wp2_with fail
      refine (HM _ (HL.out.call y4.out)).out.mono ?_; rintro e w5 ⟨rfl, hb5⟩
      have y5 := hid (bnext y4.out hb5); clear hb5
      go_wp2_with fail
      go_ret2
      exact ⟨rfl, y5.out⟩
  · rw [if_neg h0, if_neg h0]
    rw [if_neg (fun h => h0 h.1), if_neg (fun h => h0 h.1)]
    have q2 : (e0 == 0) = false := by simpa using h0
    clear ha hg hL hc hF hG hk hm hf hy hys hx0 he0 hx1 he1 hx2 he2 h0
    go_enter Tryz.func65, Tryz.ntmps65
    go_wp2_with fail
    refine HR.out.mono ?_; rintro e w1 ⟨rfl, hb1⟩
    have y1 := hid hb1
    have c1 := (hb1.cell (cell_lt HC.out)).trans HC.out
    clear hb1
    go_wp2_with fail
    refine (HF.out _).mono ?_; rintro e w2 ⟨rfl, rfl⟩
    go_wp2_with fail
    refine (HP _ (HL.out.call y1.out)).out.mono ?_; rintro e w3 ⟨rfl, hb3⟩
    have y3 := hid (bnext y1.out hb3); clear hb3
    go_wp2_with fail
    go_ret2
    exact ⟨rfl, y3.out⟩

theorem fo_pow (w : World) (a : ByteArray) (k : Int) (m : Nat) (g F G : Nat) (f : Rat → Rat) (rest : Bool) (ha : a.size ≤ 100000) (hg : gPE a = 0) (hk : -10000 ≤ k ∧ k ≤ 10000) (hm : m ≤ 100000) (hf : ¬ ovQ (f (vQ a))) (hL : Lay w)
    (hen : ∀ args w, (callFunc F args).run Tryz.prog w = .ok (.enter F args) w) (heng : ∀ args w, (callFunc G args).run Tryz.prog w = .ok (.enter G args) w)
    (hc : w.cell? ⟨g, 0, none⟩ = some (.func (.func F) #[] #[])) (hF : ByOk F k m (.func (.func G) #[] #[]) rest) (hG : FacOk G f) :
    Calls Tryz.prog 65 #[.string a, .int .i64 k, .pointer (some ⟨g, 0, none⟩)] w fun e w' => e = .returned (.tuple #[.string (frB f m rest (vQ a)), .int .i64 (frE f m rest (vQ a))]) ∧ Below w.heap.size w w' := by
  have H := fo_pow0 w a k m g F G f rest ha hg hk hm hf hL hen heng hc hF hG
  obtain ⟨e1, e2⟩ := st_is (m := m) (rest := rest) (ratio_is hg).1 hf
  rw [e1, e2] at H
  exact H
end Go.Proofs.YtikfgddgfddbaaaGreatDoor

/- Walks: the functions that say which formula; OneMass, TwoMass, OneTail, TwoTail. -/
namespace Go.Proofs.YtikfgddgfddbaaaGreatDoor
open Go.RowKit Go.Shelf
open Go.Lib (decDigits nDigits)
set_option linter.unusedVariables false
set_option linter.unusedSimpArgs false

theorem by_om_neg {k : Int} (h : k < 0) : ByOk 32 k (0 : Nat) .nilFunc false := by
  intro w
  have q0 : decide (k < 0) = true := by simpa using h
  clear h
  go_enter Tryz.func32, Tryz.ntmps32
  go_wp2_with fail
  refine bodyPost_ret (v := .tuple #[.int .i64 0, .nilFunc, .bool false]) (by simp [results, Tryz.results32, go_sem]) rfl ⟨rfl, rfl⟩
theorem by_om {k : Nat} : ByOk 32 k k (.func (.func 33) #[] #[]) false := by
  intro w
  have q0 : decide ((k : Int) < 0) = false := by simp
  go_enter Tryz.func32, Tryz.ntmps32
  go_wp2_with fail
  refine bodyPost_ret (v := .tuple #[.int .i64 k, .func (.func 33) #[] #[], .bool false]) (by simp [results, Tryz.results32, go_sem]) rfl ⟨rfl, rfl⟩
theorem by_ot_neg {k : Int} (h : k < 0) : ByOk 37 k (1 : Nat) .nilFunc false := by
  intro w
  have q0 : decide (k < 0) = true := by simpa using h
  clear h
  go_enter Tryz.func37, Tryz.ntmps37
  go_wp2_with fail
  refine bodyPost_ret (v := .tuple #[.int .i64 1, .nilFunc, .bool false]) (by simp [results, Tryz.results37, go_sem]) rfl ⟨rfl, rfl⟩
theorem by_ot {k : Nat} : ByOk 37 k k (.func (.func 38) #[] #[]) false := by
  intro w
  have q0 : decide ((k : Int) < 0) = false := by simp
  go_enter Tryz.func37, Tryz.ntmps37
  go_wp2_with fail
  refine bodyPost_ret (v := .tuple #[.int .i64 k, .func (.func 38) #[] #[], .bool false]) (by simp [results, Tryz.results37, go_sem]) rfl ⟨rfl, rfl⟩
theorem by_tt_low {k : Int} (h : k < 1) (h2 : -10000 ≤ k) : ByOk 39 k ((1 - k).toNat : Nat) (.func (.func 40) #[] #[]) true := by
  intro w
  have q0 : decide (k < 1) = true := by simpa using h
  obtain ⟨m, hm⟩ : ∃ m : Int, ((1 - k).toNat : Int) = m := ⟨_, rfl⟩
  have w0 : IntKind.i64.wrap (1 - k) = m := by rw [IntWalk.i64_in _ ⟨by omega, by omega⟩]; omega
  rw [hm]
  clear h h2 hm
  go_enter Tryz.func39, Tryz.ntmps39
  go_wp2_with fail
  refine bodyPost_ret (v := .tuple #[.int .i64 m, .func (.func 40) #[] #[], .bool true]) (by simp [results, Tryz.results39, go_sem]) rfl ⟨rfl, rfl⟩
theorem by_tt {k : Nat} (h : 1 ≤ k) : ByOk 39 k k (.func (.func 40) #[] #[]) false := by
  intro w
  have q0 : decide ((k : Int) < 1) = false := by simp; omega
  clear h
  go_enter Tryz.func39, Tryz.ntmps39
  go_wp2_with fail
  refine bodyPost_ret (v := .tuple #[.int .i64 k, .func (.func 40) #[] #[], .bool false]) (by simp [results, Tryz.results39, go_sem]) rfl ⟨rfl, rfl⟩
theorem by_tm {k : Int} (h : -10000 ≤ k) (h2 : k ≤ 10000) : ByOk 35 k (k.natAbs : Nat) (.func (.func 36) #[] #[]) false := by
  intro w
  obtain ⟨m, hm⟩ : ∃ m : Int, (k.natAbs : Int) = m := ⟨_, rfl⟩
  have w0 : IntKind.i64.wrap (-k) = -k := by rw [IntWalk.i64_in _ ⟨by omega, by omega⟩]
  have hmx := hid (show max k (-k) = m by omega)
  rw [hm]
  clear h h2 hm
  go_enter Tryz.func35, Tryz.ntmps35
  go_wp2_with fail
  refine bodyPost_ret (v := .tuple #[.int .i64 m, .func (.func 36) #[] #[], .bool false]) (by simp [results, Tryz.results35, go_sem]; exact hmx.out) rfl ⟨rfl, rfl⟩

set_option maxRecDepth 100000 in
set_option maxHeartbeats 1000000 in
theorem g_formula (w : World) (F : Nat) :
    Calls Tryz.prog 31 #[.func (.func F) #[] #[]] w fun e w' => e = .returned (.func (.func 65) #[] #[.pointer (some ⟨w.heap.size, 0, none⟩)]) ∧ w' = w.alloc (.cells #[.func (.func F) #[] #[]] 58) := by
  go_enter Tryz.func31, Tryz.ntmps31
  go_wp2_with fail
  go_ret
  exact ⟨rfl, rfl⟩

/-- What a mass or a tail gives: R, x where the ratio and the integer are right. -/
def foB (a : ByteArray) (k : Int) (R : ByteArray) : ByteArray := if gPE a ≠ 0 then ⟨#[]⟩ else if k < -10000 ∨ 10000 < k then ⟨#[]⟩ else R
def foE (a : ByteArray) (k : Int) (x : Int) : Int := if gPE a ≠ 0 then gPE a else if k < -10000 ∨ 10000 < k then 2 else x

theorem fo_all (w : World) (a : ByteArray) (k : Int) (F : Nat) (R : ByteArray) (x : Int) (ha : a.size ≤ 100000) (hL : Lay w)
    (hF : gPE a = 0 → -10000 ≤ k ∧ k ≤ 10000 → ∀ W g, Lay W → W.cell? ⟨g, 0, none⟩ = some (.func (.func F) #[] #[]) → Calls Tryz.prog 65 #[.string a, .int .i64 k, .pointer (some ⟨g, 0, none⟩)] W fun e w' => e = .returned (.tuple #[.string R, .int .i64 x]) ∧ Below W.heap.size W w') :
    ∀ g, w.cell? ⟨g, 0, none⟩ = some (.func (.func F) #[] #[]) → Calls Tryz.prog 65 #[.string a, .int .i64 k, .pointer (some ⟨g, 0, none⟩)] w fun e w' => e = .returned (.tuple #[.string (foB a k R), .int .i64 (foE a k x)]) ∧ Below w.heap.size w w' := by
  intro g hc
  unfold foB foE
  by_cases h1 : gPE a = 0
  · have n1 : ¬ (gPE a ≠ 0) := fun h => h h1
    rw [if_neg n1, if_neg n1]
    by_cases h2 : k < -10000 ∨ 10000 < k
    · rw [if_pos h2, if_pos h2]; exact fo_far w a k g ha h1 h2 hL
    · rw [if_neg h2, if_neg h2]; exact hF h1 (by omega) w g hL hc
  · rw [if_pos h1, if_pos h1]; exact fo_bad w a k g ha h1 hL

set_option maxRecDepth 100000 in
set_option maxHeartbeats 1000000 in
theorem g_OneMass0 (w : World) (a : ByteArray) (k : Int) (R : ByteArray) (x : Int) (hL : Lay w)
    (hF : ∀ W g, Lay W → W.cell? ⟨g, 0, none⟩ = some (.func (.func 32) #[] #[]) → Calls Tryz.prog 65 #[.string a, .int .i64 k, .pointer (some ⟨g, 0, none⟩)] W fun e w' => e = .returned (.tuple #[.string R, .int .i64 x]) ∧ Below W.heap.size W w') :
    Calls Tryz.prog 12 #[.string a, .int .i64 k] w fun e w' => e = .returned (.tuple #[.string R, .int .i64 x]) ∧ Below w.heap.size w w' := by
  have HF := hid hF
  have HL := hid hL
  have e65 : ∀ args w, (callFunc 65 args).run Tryz.prog w = .ok (.enter 65 args) w := enters_of Tryz.func65 (by kernel_rfl) rfl
  have b1 := hid ((Below.refl w.heap.size w).alloc (Nat.le_refl _) (.cells #[.func (.func 32) #[] #[]] 58))
  have X1 := hid (Blk.new w #[.func (.func 32) #[] #[]] 58)
  clear hF hL
  go_enter Tryz.func12, Tryz.ntmps12
  go_wp2_with fail
  refine (g_formula _ _).mono ?_; rintro e w1 ⟨rfl, rfl⟩
  go_wp2_with fail
  refine (HF.out _ _ (HL.out.call b1.out) (X1.out.cell 0)).mono ?_; rintro e w2 ⟨rfl, hb2⟩
  have y2 := hid (bnext b1.out hb2); clear hb2
  go_wp2_with fail
  go_ret2
  exact ⟨rfl, y2.out⟩

set_option maxRecDepth 100000 in
set_option maxHeartbeats 1000000 in
theorem g_TwoMass0 (w : World) (a : ByteArray) (k : Int) (R : ByteArray) (x : Int) (hL : Lay w)
    (hF : ∀ W g, Lay W → W.cell? ⟨g, 0, none⟩ = some (.func (.func 35) #[] #[]) → Calls Tryz.prog 65 #[.string a, .int .i64 k, .pointer (some ⟨g, 0, none⟩)] W fun e w' => e = .returned (.tuple #[.string R, .int .i64 x]) ∧ Below W.heap.size W w') :
    Calls Tryz.prog 14 #[.string a, .int .i64 k] w fun e w' => e = .returned (.tuple #[.string R, .int .i64 x]) ∧ Below w.heap.size w w' := by
  have HF := hid hF
  have HL := hid hL
  have e65 : ∀ args w, (callFunc 65 args).run Tryz.prog w = .ok (.enter 65 args) w := enters_of Tryz.func65 (by kernel_rfl) rfl
  have b1 := hid ((Below.refl w.heap.size w).alloc (Nat.le_refl _) (.cells #[.func (.func 35) #[] #[]] 58))
  have X1 := hid (Blk.new w #[.func (.func 35) #[] #[]] 58)
  clear hF hL
  go_enter Tryz.func14, Tryz.ntmps14
  go_wp2_with fail
  refine (g_formula _ _).mono ?_; rintro e w1 ⟨rfl, rfl⟩
  go_wp2_with fail
  refine (HF.out _ _ (HL.out.call b1.out) (X1.out.cell 0)).mono ?_; rintro e w2 ⟨rfl, hb2⟩
  have y2 := hid (bnext b1.out hb2); clear hb2
  go_wp2_with fail
  go_ret2
  exact ⟨rfl, y2.out⟩

set_option maxRecDepth 100000 in
set_option maxHeartbeats 1000000 in
theorem g_OneTail0 (w : World) (a : ByteArray) (k : Int) (R : ByteArray) (x : Int) (hL : Lay w)
    (hF : ∀ W g, Lay W → W.cell? ⟨g, 0, none⟩ = some (.func (.func 37) #[] #[]) → Calls Tryz.prog 65 #[.string a, .int .i64 k, .pointer (some ⟨g, 0, none⟩)] W fun e w' => e = .returned (.tuple #[.string R, .int .i64 x]) ∧ Below W.heap.size W w') :
    Calls Tryz.prog 16 #[.string a, .int .i64 k] w fun e w' => e = .returned (.tuple #[.string R, .int .i64 x]) ∧ Below w.heap.size w w' := by
  have HF := hid hF
  have HL := hid hL
  have e65 : ∀ args w, (callFunc 65 args).run Tryz.prog w = .ok (.enter 65 args) w := enters_of Tryz.func65 (by kernel_rfl) rfl
  have b1 := hid ((Below.refl w.heap.size w).alloc (Nat.le_refl _) (.cells #[.func (.func 37) #[] #[]] 58))
  have X1 := hid (Blk.new w #[.func (.func 37) #[] #[]] 58)
  clear hF hL
  go_enter Tryz.func16, Tryz.ntmps16
  go_wp2_with fail
  refine (g_formula _ _).mono ?_; rintro e w1 ⟨rfl, rfl⟩
  go_wp2_with fail
  refine (HF.out _ _ (HL.out.call b1.out) (X1.out.cell 0)).mono ?_; rintro e w2 ⟨rfl, hb2⟩
  have y2 := hid (bnext b1.out hb2); clear hb2
  go_wp2_with fail
  go_ret2
  exact ⟨rfl, y2.out⟩

set_option maxRecDepth 100000 in
set_option maxHeartbeats 1000000 in
theorem g_TwoTail0 (w : World) (a : ByteArray) (k : Int) (R : ByteArray) (x : Int) (hL : Lay w)
    (hF : ∀ W g, Lay W → W.cell? ⟨g, 0, none⟩ = some (.func (.func 39) #[] #[]) → Calls Tryz.prog 65 #[.string a, .int .i64 k, .pointer (some ⟨g, 0, none⟩)] W fun e w' => e = .returned (.tuple #[.string R, .int .i64 x]) ∧ Below W.heap.size W w') :
    Calls Tryz.prog 18 #[.string a, .int .i64 k] w fun e w' => e = .returned (.tuple #[.string R, .int .i64 x]) ∧ Below w.heap.size w w' := by
  have HF := hid hF
  have HL := hid hL
  have e65 : ∀ args w, (callFunc 65 args).run Tryz.prog w = .ok (.enter 65 args) w := enters_of Tryz.func65 (by kernel_rfl) rfl
  have b1 := hid ((Below.refl w.heap.size w).alloc (Nat.le_refl _) (.cells #[.func (.func 39) #[] #[]] 58))
  have X1 := hid (Blk.new w #[.func (.func 39) #[] #[]] 58)
  clear hF hL
  go_enter Tryz.func18, Tryz.ntmps18
  go_wp2_with fail
  refine (g_formula _ _).mono ?_; rintro e w1 ⟨rfl, rfl⟩
  go_wp2_with fail
  refine (HF.out _ _ (HL.out.call b1.out) (X1.out.cell 0)).mono ?_; rintro e w2 ⟨rfl, hb2⟩
  have y2 := hid (bnext b1.out hb2); clear hb2
  go_wp2_with fail
  go_ret2
  exact ⟨rfl, y2.out⟩

def omB (a : ByteArray) (k : Int) : ByteArray := foB a k (if k < 0 then numB 0 else frB fNot k.toNat false (vQ a))
def omE (a : ByteArray) (k : Int) : Int := foE a k (if k < 0 then 0 else frE fNot k.toNat false (vQ a))
def tmB (a : ByteArray) (k : Int) : ByteArray := foB a k (frB fShare k.natAbs false (vQ a))
def tmE (a : ByteArray) (k : Int) : Int := foE a k (frE fShare k.natAbs false (vQ a))
def otB (a : ByteArray) (k : Int) : ByteArray := foB a k (if k < 0 then numB 1 else frB (fun _ => 1) k.toNat false (vQ a))
def otE (a : ByteArray) (k : Int) : Int := foE a k (if k < 0 then 0 else frE (fun _ => 1) k.toNat false (vQ a))
def ttB (a : ByteArray) (k : Int) : ByteArray := foB a k (if k < 1 then frB fUnder (1 - k).toNat true (vQ a) else frB fUnder k.toNat false (vQ a))
def ttE (a : ByteArray) (k : Int) : Int := foE a k (if k < 1 then frE fUnder (1 - k).toNat true (vQ a) else frE fUnder k.toNat false (vQ a))

theorem e_om : ∀ args w, (callFunc 32 args).run Tryz.prog w = .ok (.enter 32 args) w := enters_of Tryz.func32 (by kernel_rfl) rfl
theorem e_tm : ∀ args w, (callFunc 35 args).run Tryz.prog w = .ok (.enter 35 args) w := enters_of Tryz.func35 (by kernel_rfl) rfl
theorem e_ot : ∀ args w, (callFunc 37 args).run Tryz.prog w = .ok (.enter 37 args) w := enters_of Tryz.func37 (by kernel_rfl) rfl
theorem e_tt : ∀ args w, (callFunc 39 args).run Tryz.prog w = .ok (.enter 39 args) w := enters_of Tryz.func39 (by kernel_rfl) rfl
theorem e_not : ∀ args w, (callFunc 33 args).run Tryz.prog w = .ok (.enter 33 args) w := enters_of Tryz.func33 (by kernel_rfl) rfl
theorem e_sure : ∀ args w, (callFunc 38 args).run Tryz.prog w = .ok (.enter 38 args) w := enters_of Tryz.func38 (by kernel_rfl) rfl
theorem e_under : ∀ args w, (callFunc 40 args).run Tryz.prog w = .ok (.enter 40 args) w := enters_of Tryz.func40 (by kernel_rfl) rfl
theorem e_share : ∀ args w, (callFunc 36 args).run Tryz.prog w = .ok (.enter 36 args) w := enters_of Tryz.func36 (by kernel_rfl) rfl

theorem g_OneMass (w : World) (a : ByteArray) (k : Int) (ha : a.size ≤ 100000) (hL : Lay w) :
    Calls Tryz.prog 12 #[.string a, .int .i64 k] w fun e w' => e = .returned (.tuple #[.string (omB a k), .int .i64 (omE a k)]) ∧ Below w.heap.size w w' :=
  g_OneMass0 w a k _ _ hL (fun W g hW hc => fo_all W a k _ _ _ ha hW (fun hg hk W g hW hc => by
    by_cases h : k < 0
    · rw [if_pos h, if_pos h]
      exact fo_nil W a k 0 g _ false ha hg hk (by omega) hW e_om hc (by_om_neg h)
    · rw [if_neg h, if_neg h]
      obtain ⟨n, rfl⟩ : ∃ n : Nat, k = n := ⟨k.toNat, by omega⟩
      exact fo_pow W a n n g _ _ fNot false ha hg hk (by omega) ((dig_not (ratio_is hg).2.2.2).fits (by omega) (by omega)) hW e_om e_not hc by_om g_not) g hc)
theorem g_OneTail (w : World) (a : ByteArray) (k : Int) (ha : a.size ≤ 100000) (hL : Lay w) :
    Calls Tryz.prog 16 #[.string a, .int .i64 k] w fun e w' => e = .returned (.tuple #[.string (otB a k), .int .i64 (otE a k)]) ∧ Below w.heap.size w w' :=
  g_OneTail0 w a k _ _ hL (fun W g hW hc => fo_all W a k _ _ _ ha hW (fun hg hk W g hW hc => by
    by_cases h : k < 0
    · rw [if_pos h, if_pos h]
      exact fo_nil W a k 1 g _ false ha hg hk (by omega) hW e_ot hc (by_ot_neg h)
    · rw [if_neg h, if_neg h]
      obtain ⟨n, rfl⟩ : ∃ n : Nat, k = n := ⟨k.toNat, by omega⟩
      exact fo_pow W a n n g _ _ (fun _ => 1) false ha hg hk (by omega) fits_one hW e_ot e_sure hc by_ot g_sure) g hc)
theorem g_TwoMass (w : World) (a : ByteArray) (k : Int) (ha : a.size ≤ 100000) (hL : Lay w) :
    Calls Tryz.prog 14 #[.string a, .int .i64 k] w fun e w' => e = .returned (.tuple #[.string (tmB a k), .int .i64 (tmE a k)]) ∧ Below w.heap.size w w' :=
  g_TwoMass0 w a k _ _ hL (fun W g hW hc => fo_all W a k _ _ _ ha hW (fun hg hk W g hW hc =>
    fo_pow W a k k.natAbs g _ _ fShare false ha hg hk (by omega) ((dig_share (ratio_is hg).2.2.2 (ratio_is hg).2.1).fits (by omega) (by omega)) hW e_tm e_share hc (by_tm hk.1 hk.2) g_share) g hc)
theorem g_TwoTail (w : World) (a : ByteArray) (k : Int) (ha : a.size ≤ 100000) (hL : Lay w) :
    Calls Tryz.prog 18 #[.string a, .int .i64 k] w fun e w' => e = .returned (.tuple #[.string (ttB a k), .int .i64 (ttE a k)]) ∧ Below w.heap.size w w' :=
  g_TwoTail0 w a k _ _ hL (fun W g hW hc => fo_all W a k _ _ _ ha hW (fun hg hk W g hW hc => by
    by_cases h : k < 1
    · rw [if_pos h, if_pos h]
      exact fo_pow W a k (1 - k).toNat g _ _ fUnder true ha hg hk (by omega) ((dig_under (ratio_is hg).2.2.2 (ratio_is hg).2.1).fits (by omega) (by omega)) hW e_tt e_under hc (by_tt_low h hk.1) g_under
    · rw [if_neg h, if_neg h]
      obtain ⟨n, rfl⟩ : ∃ n : Nat, k = n := ⟨k.toNat, by omega⟩
      exact fo_pow W a n n g _ _ fUnder false ha hg hk (by omega) ((dig_under (ratio_is hg).2.2.2 (ratio_is hg).2.1).fits (by omega) (by omega)) hW e_tt e_under hc (by_tt (by omega)) g_under) g hc)
end Go.Proofs.YtikfgddgfddbaaaGreatDoor

/- Plain: what the masses and tails are as rational numbers, and the laws between them. -/
namespace Go.Proofs.YtikfgddgfddbaaaGreatDoor
open Go.RowKit Go.Shelf
open Go.Lib (decDigits nDigits)
set_option linter.unusedVariables false
set_option linter.unusedSimpArgs false

/-- The masses and tails as numbers. -/
def OM (A : Rat) (k : Int) : Rat := if k < 0 then 0 else fNot A * A ^ k.toNat
def OT (A : Rat) (k : Int) : Rat := if k < 0 then 1 else 1 * A ^ k.toNat
def TM (A : Rat) (k : Int) : Rat := fShare A * A ^ k.natAbs
def TT (A : Rat) (k : Int) : Rat := if k < 1 then 1 - fUnder A * A ^ (1 - k).toNat else fUnder A * A ^ k.toNat

theorem under_one {A : Rat} (h : 1 + A ≠ 0) : fUnder A + fUnder A * A = 1 := by
  unfold fUnder
  have := Rat.mul_inv_cancel _ h
  rw [Rat.div_def]
  grind

theorem om_ot (A : Rat) (k : Int) : OM A k + OT A (k + 1) = OT A k := by
  unfold OM OT fNot
  by_cases h : k < 0
  · rw [if_pos h, if_pos h]
    by_cases h2 : k + 1 < 0
    · rw [if_pos h2]; grind
    · rw [if_neg h2, show (k + 1).toNat = 0 by omega, Rat.pow_zero]; grind
  · rw [if_neg h, if_neg h, if_neg (by omega), show (k + 1).toNat = k.toNat + 1 by omega, Rat.pow_succ]
    generalize A ^ k.toNat = P
    grind
theorem ot_zero (A : Rat) : OT A 0 = 1 := by
  unfold OT
  rw [if_neg (by omega), show (0 : Int).toNat = 0 from rfl, Rat.pow_zero]
  grind
theorem tm_neg (A : Rat) (k : Int) : TM A (-k) = TM A k := by unfold TM; rw [Int.natAbs_neg]
theorem tm_tt {A : Rat} (ha : 1 + A ≠ 0) (k : Int) : TM A k + TT A (k + 1) = TT A k := by
  have hu := under_one ha
  unfold TM TT fShare fNot
  generalize fUnder A = U at *
  by_cases h : k < 1
  · by_cases h2 : k + 1 < 1
    · rw [if_pos h, if_pos h2, show k.natAbs = (1 - (k + 1)).toNat by omega, show (1 - k).toNat = (1 - (k + 1)).toNat + 1 by omega, Rat.pow_succ]
      generalize A ^ (1 - (k + 1)).toNat = P
      grind
    · obtain rfl : k = 0 := by omega
      rw [if_pos h, if_neg h2, show (0 : Int).natAbs = 0 from rfl, show ((0 : Int) + 1).toNat = 0 + 1 from rfl, show ((1 : Int) - 0).toNat = 0 + 1 from rfl, Rat.pow_succ, Rat.pow_zero]
      grind
  · rw [if_neg h, if_neg (by omega), show k.natAbs = k.toNat by omega, show (k + 1).toNat = k.toNat + 1 by omega, Rat.pow_succ]
    generalize A ^ k.toNat = P
    grind
theorem tm_up {A : Rat} {k : Int} (h : 0 ≤ k) : A * TM A k = TM A (k + 1) := by
  unfold TM
  rw [show (k + 1).natAbs = k.natAbs + 1 by omega, Rat.pow_succ]
  generalize A ^ k.natAbs = P
  grind
theorem tm_down {A : Rat} {k : Int} (h : k < 0) : A * TM A (k + 1) = TM A k := by
  unfold TM
  rw [show k.natAbs = (k + 1).natAbs + 1 by omega, Rat.pow_succ]
  generalize A ^ (k + 1).natAbs = P
  grind
theorem om_up {A : Rat} {k : Int} (h : 0 ≤ k) : A * OM A k = OM A (k + 1) := by
  unfold OM
  rw [if_neg (by omega), if_neg (by omega), show (k + 1).toNat = k.toNat + 1 by omega, Rat.pow_succ]
  generalize A ^ k.toNat = P
  grind

/-- A short text's number has few digits. -/
theorem lt_of_digits {n K : Nat} (h : nDigits n ≤ K) : n < 10 ^ K := Nat.lt_of_lt_of_le (Go.Lib.lt_pow_nDigits n) (Nat.pow_le_pow_right (by omega) h)
theorem dig_text {a : ByteArray} {K : Nat} (h : qE a = 0) (hs : a.size ≤ K) (hK : 1 ≤ K) : Dig K (vQ a) := by
  obtain ⟨h1, h2, h3, h4, h5, h6⟩ := valid h
  obtain ⟨-, e2, e3⟩ := vQ_ok h
  have hl := list_size a
  have ht : a.data.toList = (if iM (cW a) = true then [45] else []) ++ (decDigits (bN (iD (cW a))) ++ (if bN (qD a) = 1 then [] else 47 :: decDigits (bN (qD a)))) := by
    conv => lhs; rw [h6]
    exact txB_list _ _ _
  rw [ht] at hl
  simp only [List.length_append, Lib.decDigits_length] at hl
  refine ⟨by rw [e2]; exact lt_of_digits (by omega), ?_⟩
  rw [e3]
  by_cases hd : bN (qD a) = 1
  · rw [hd]
    exact Nat.lt_of_lt_of_le (show 1 < 10 ^ 1 by decide) (Nat.pow_le_pow_right (by omega) hK)
  · rw [if_neg hd] at hl
    simp only [List.length_cons, Lib.decDigits_length] at hl
    exact lt_of_digits (by omega)

theorem dig_not' {A : Rat} (h : Dig 20 A) : Dig 22 (fNot A) := dig_sub dig_one h
theorem dig_under' {A : Rat} (h : Dig 20 A) (h0 : 0 ≤ A.num) : Dig 23 (fUnder A) := by
  unfold fUnder
  rw [Rat.div_def]
  exact dig_mul dig_one (dig_inv (one_plus h0) (dig_add dig_one h))
theorem dig_share' {A : Rat} (h : Dig 20 A) (h0 : 0 ≤ A.num) : Dig 45 (fShare A) := dig_mul (dig_not' h) (dig_under' h h0)
theorem dig_pow' {A : Rat} (h : Dig 20 A) {n : Nat} (hn : n ≤ 42) : Dig 841 (A ^ n) := (dig_pow h n).up (by omega)

theorem fr_plain {f : Rat → Rat} {A : Rat} {n : Nat} (h : Dig 20 A) (hf : Dig 45 (f A)) (hn : n ≤ 42) : frB f n false A = txQ (f A * A ^ n) ∧ frE f n false A = 0 ∧ Dig 886 (f A * A ^ n) := by
  have h1 := dig_pow' h hn
  have h2 := dig_mul hf h1
  have n1 := h1.fits (by omega) (by omega)
  have n2 := h2.fits (by omega) (by omega)
  unfold frB frE
  rw [if_neg n1, if_neg n2, if_neg n1, if_neg n2, if_neg (by simp), if_neg (by simp)]
  exact ⟨rfl, rfl, h2⟩
theorem fr_rest {f : Rat → Rat} {A : Rat} {n : Nat} (h : Dig 20 A) (hf : Dig 45 (f A)) (hn : n ≤ 42) : frB f n true A = txQ (1 - f A * A ^ n) ∧ frE f n true A = 0 ∧ Dig 888 (1 - f A * A ^ n) := by
  have h1 := dig_pow' h hn
  have h2 := dig_mul hf h1
  have h3 := dig_sub dig_one h2
  have n1 := h1.fits (by omega) (by omega)
  have n2 := h2.fits (by omega) (by omega)
  have n3 := h3.fits (by omega) (by omega)
  unfold frB frE
  rw [if_neg n1, if_neg n2, if_neg n1, if_neg n2, if_pos rfl, if_pos rfl, outB_fits n3, outE_fits n3]
  exact ⟨rfl, rfl, h3.up (by omega)⟩

/-- What a small ratio and a small integer give. -/
def SmR (a : ByteArray) (k : Int) : Prop := gPE a = 0 ∧ a.size ≤ 20 ∧ -41 ≤ k ∧ k ≤ 41
theorem SmR.dig {a : ByteArray} {k : Int} (h : SmR a k) : Dig 20 (vQ a) := dig_text (ratio_is h.1).1 h.2.1 (by omega)
theorem SmR.num {a : ByteArray} {k : Int} (h : SmR a k) : 0 ≤ (vQ a).num := (ratio_is h.1).2.1
theorem numB_txQ0 : numB 0 = txQ 0 := by
  unfold numB txQ txB
  rw [show (0 : Rat).num.natAbs = 0 from rfl, show (0 : Rat).den = 1 from rfl, show decide ((0 : Rat).num < 0) = false from rfl]
  simp
theorem numB_txQ1 : numB 1 = txQ 1 := by
  rw [← t1_tx, numB_one]; rfl
theorem dig_zero : Dig 1 (0 : Rat) := ⟨by decide, by decide⟩

theorem foB_sm {a : ByteArray} {k : Int} (h : SmR a k) (R : ByteArray) : foB a k R = R := by
  obtain ⟨h1, h2, h3, h4⟩ := h
  unfold foB
  rw [if_neg (fun e => e h1), if_neg (by omega)]
theorem foE_sm {a : ByteArray} {k : Int} (h : SmR a k) (x : Int) : foE a k x = x := by
  obtain ⟨h1, h2, h3, h4⟩ := h
  unfold foE
  rw [if_neg (fun e => e h1), if_neg (by omega)]

theorem om_sm {a : ByteArray} {k : Int} (h : SmR a k) : omB a k = txQ (OM (vQ a) k) ∧ omE a k = 0 ∧ Dig 888 (OM (vQ a) k) := by
  unfold omB omE OM
  rw [foB_sm h, foE_sm h]
  obtain ⟨h1, h2, h3, h4⟩ := id h
  by_cases hk : k < 0
  · rw [if_pos hk, if_pos hk, if_pos hk]; exact ⟨numB_txQ0, rfl, dig_zero.up (by omega)⟩
  · rw [if_neg hk, if_neg hk, if_neg hk]
    obtain ⟨q1, q2, q3⟩ := fr_plain (f := fNot) h.dig ((dig_not' h.dig).up (by omega)) (n := k.toNat) (by omega)
    exact ⟨q1, q2, q3.up (by omega)⟩
theorem ot_sm {a : ByteArray} {k : Int} (h : SmR a k) : otB a k = txQ (OT (vQ a) k) ∧ otE a k = 0 ∧ Dig 888 (OT (vQ a) k) := by
  unfold otB otE OT
  rw [foB_sm h, foE_sm h]
  obtain ⟨h1, h2, h3, h4⟩ := id h
  by_cases hk : k < 0
  · rw [if_pos hk, if_pos hk, if_pos hk]; exact ⟨numB_txQ1, rfl, dig_one.up (by omega)⟩
  · rw [if_neg hk, if_neg hk, if_neg hk]
    obtain ⟨q1, q2, q3⟩ := fr_plain (f := fun _ => 1) h.dig (dig_one.up (by omega)) (n := k.toNat) (by omega)
    exact ⟨q1, q2, q3.up (by omega)⟩
theorem tm_sm {a : ByteArray} {k : Int} (h : SmR a k) : tmB a k = txQ (TM (vQ a) k) ∧ tmE a k = 0 ∧ Dig 888 (TM (vQ a) k) := by
  unfold tmB tmE TM
  rw [foB_sm h, foE_sm h]
  obtain ⟨h1, h2, h3, h4⟩ := id h
  obtain ⟨q1, q2, q3⟩ := fr_plain (f := fShare) h.dig (dig_share' h.dig h.num) (n := k.natAbs) (by omega)
  exact ⟨q1, q2, q3.up (by omega)⟩
theorem tt_sm {a : ByteArray} {k : Int} (h : SmR a k) : ttB a k = txQ (TT (vQ a) k) ∧ ttE a k = 0 ∧ Dig 888 (TT (vQ a) k) := by
  unfold ttB ttE TT
  rw [foB_sm h, foE_sm h]
  obtain ⟨h1, h2, h3, h4⟩ := id h
  have hu : Dig 45 (fUnder (vQ a)) := (dig_under' h.dig h.num).up (by omega)
  by_cases hk : k < 1
  · rw [if_pos hk, if_pos hk, if_pos hk]
    exact fr_rest (f := fUnder) h.dig hu (n := (1 - k).toNat) (by omega)
  · rw [if_neg hk, if_neg hk, if_neg hk]
    obtain ⟨q1, q2, q3⟩ := fr_plain (f := fUnder) h.dig hu (n := k.toNat) (by omega)
    exact ⟨q1, q2, q3.up (by omega)⟩

theorem sum_sm {p q r : Rat} (hp : Dig 888 p) (hq : Dig 888 q) (hr : Dig 888 r) (e : p + q = r) : op2B (· + ·) (txQ p) (txQ q) = txQ r ∧ op2E (· + ·) (txQ p) (txQ q) = 0 := by
  subst e
  exact op2_fits (f := (· + ·)) (hp.fits (by omega) (by omega)) (hq.fits (by omega) (by omega)) (hr.fits (by omega) (by omega))
theorem mul_sm {a : ByteArray} {q r : Rat} (ha : qE a = 0) (hd : Dig 20 (vQ a)) (hq : Dig 888 q) (e : vQ a * q = r) : op2B (· * ·) a (txQ q) = txQ r ∧ op2E (· * ·) a (txQ q) = 0 := by
  subst e
  have h := op2_fits (f := (· * ·)) (hd.fits (by omega) (by omega)) (hq.fits (by omega) (by omega)) ((dig_mul hd hq).fits (by omega) (by omega))
  rw [← vQ_text ha] at h
  exact h
end Go.Proofs.YtikfgddgfddbaaaGreatDoor

/- Walks: the reference's Write. -/
namespace Go.Proofs.YtikfgddgfddbaaaGreatDoor
open Go.RowKit
open Go.Lib (decDigits nDigits)
set_option linter.unusedVariables false

theorem make_bytes (n : Nat) (hn : n ≤ 100000000) (W : World) : (Instr.makeSlice 123 (.int .i64 (n : Int)) (.int .i64 (n : Int))).run Tryz.prog W = .ok (.slice (some ⟨W.heap.size, 0, none⟩) n n) (W.alloc (.cells (madeCells #[.int .u8 0] n) 5)) :=
  run_make_row' (P := Tryz.prog) 123 5 (.int .u8 0) 1 Tryz.underlying123 (by kernel_rfl) rfl .i64 .i64 n (by omega) (by omega) W

theorem r1_Write_zero (w : World) (v : Value) (h : IsN .i64 w v 0) : Calls Tryz.prog 77 #[v] w fun e w' => e = .returned (numV 0) ∧ Below w.heap.size w w' := by
  obtain ⟨a, c, rfl, _⟩ := h.openI
  have hl : (limbs 0).length = 0 := by rw [limbs_zero]; rfl
  rw [hl]
  have e : numV 0 = .string ⟨#[48]⟩ := by rw [numV, dec_zero]
  have E := hid e
  clear h hl e
  go_enter Tryz.func77, Tryz.ntmps77
  go_wp2_with fail
  go_ret
  exact ⟨by rw [E.out]; rfl, Below.refl _ _⟩

set_option maxRecDepth 100000 in
set_option maxHeartbeats 1000000 in
theorem r1_Write_pos (w : World) (v : Value) (n : Nat) (h : IsN .i64 w v n) (h0 : 0 < n) (hl : (limbs n).length ≤ 1000000) : Calls Tryz.prog 77 #[v] w fun e w' => e = .returned (numV n) ∧ Below w.heap.size w w' := by
  obtain ⟨a, c, rfl, h1, h2, h3⟩ := h.openI
  have H3 := hid h3; clear h3 h
  obtain ⟨L, hL⟩ : ∃ L, (limbs n).length = L := ⟨_, rfl⟩
  have hLp : 0 < L := by rw [← hL]; exact List.length_pos_iff.2 (fun e => by have := limbs_nil.1 e; omega)
  rw [hL] at h1 hl ⊢
  have HL := hid hL; clear hL
  have q0 : ((L : Int) == 0) = false := by simp; omega
  have hmk : ∀ W : World, (Instr.makeSlice 123 (.int .i64 (9 * (L : Int))) (.int .i64 (9 * (L : Int)))).run Tryz.prog W = .ok (.slice (some ⟨W.heap.size, 0, none⟩) (9 * L) (9 * L)) (W.alloc (.cells (madeCells #[.int .u8 0] (9 * L)) 5)) := fun W => by
    have := make_bytes (9 * L) (by omega) W
    rwa [Int.natCast_mul] at this
  go_enter Tryz.func77, Tryz.ntmps77
  go_wp2_with fail
  clear hmk q0
  go_loopw [4, 5, 6] (fun ii nn kk wr => ∃ (i : Nat) (bs : List UInt8), ii = .int .i64 i ∧ i ≤ L ∧ Hid (WrI n i bs) ∧ Hid (BArr 5 wr w.heap.size bs) ∧ Hid (Below w.heap.size w wr)) (fun ii _ _ _ => L - (intOf ii).toNat)
  case atStart => exact ⟨0, _, rfl, Nat.zero_le _, WrI.start n, by rw [HL.out]; exact BArr.made w 5 (9 * L), (Below.refl _ _).alloc (Nat.le_refl _) _⟩
  case round =>
    obtain ⟨i, bs, rfl, hi, hW, hO, hB⟩ := hrel
    by_cases hlt : i < L
    · obtain ⟨x, hx⟩ : ∃ x, (limbs n)[L - 1 - i]? = some x := ⟨_, List.getElem?_eq_getElem (by rw [HL.out]; omega)⟩
      obtain ⟨g, o, rfl, hg, hc⟩ := H3.out _ x hx
      have d1 := (hB.out.cell (p := ⟨g, o + (L - 1 - i), none⟩) hg).trans hc
      have hxl := (sm_limbs n).get hx
      have HX := hid hx; clear hx hc
      go_wp2_with fail
      go_loopw [5, 6] (fun nn kk wq => ∃ (k y : Nat) (t : Int) (bs : List UInt8), nn = .int .i64 y ∧ kk = .int .i64 t ∧ t = (k : Int) - 1 ∧ k ≤ 9 ∧ y < 1000000000 ∧ Hid (WrJ n i x k y bs) ∧ Hid (BArr 5 wq w.heap.size bs) ∧ Hid (Below w.heap.size w wq)) (fun _ kk _ => (intOf kk + 1).toNat)
      case atStart => exact ⟨9, x, _, bs, rfl, rfl, by omega, by omega, hxl, hW.out.enter, hO, hB⟩
      case round =>
        obtain ⟨k, y, t, bs2, rfl, rfl, ht, hk, hy, hJ, hO2, hB2⟩ := hrel
        have hbl := hid (show bs2.length = 9 * L from by rw [hJ.out.len, HL.out])
        cases k with
        | zero =>
          obtain rfl : t = -1 := by omega
          clear ht
          have HN := hid (hJ.out.leave (by rw [HL.out]; exact HX.out) (by rw [HL.out]; exact hlt))
          go_wp2_with fail
          go_roundw
          case rel => exact ⟨i + 1, bs2, by go_num, by omega, HN, hO2, hB2⟩
          case measure => simp [intOf] <;> omega
        | succ k =>
          obtain rfl : t = (k : Int) := by omega
          clear ht
          have HN := hid (hJ.out.next (by omega) (by rw [HL.out]; exact hlt))
          obtain ⟨z, hz⟩ : ∃ z, bs2[9 * i + k]? = some z := ⟨_, List.getElem?_eq_getElem (by rw [hbl.out]; omega)⟩
          have d3 := hO2.out.cell hz
          have d4 := hO2.out.free (9 * i + k)
          clear hz
          go_wp2_with fail
          go_roundw
          case rel =>
            refine ⟨k, y / 10, _, bs2.set (9 * i + k) (UInt8.ofNat (48 + y % 10)), by go_num, rfl, by omega, by omega, by omega, HN, ?_, below_set hB2.out (Nat.le_refl _) _⟩
            have hz : (48 + (y : Int) % 10) = ((UInt8.ofNat (48 + y % 10)).toNat : Int) := by rw [digit_ofNat (by omega)]; omega
            rw [hz]
            exact hO2.out.set _ _
          case measure => simp [intOf] <;> omega
    · obtain rfl : i = L := by omega
      obtain ⟨hdig, hval⟩ := WrI.done (by have := hW.out; rw [← HL.out] at this; exact this)
      have HD := hid hdig; have HV := hid hval
      have hbl := hid (show bs.length = 9 * i from by rw [hW.out.len, HL.out])
      clear hdig hval
      go_wp2_with fail
      go_loop [3] (fun b => ∃ r : Nat, r + 1 ≤ 9 * i ∧ b = .slice (some ⟨w.heap.size, r, none⟩) (9 * i - r) (9 * i - r) ∧ Hid (dv (bs.drop r) = n)) (fun b => match b with | .slice _ m _ => m | _ => 0)
      case atStart => exact ⟨0, by omega, rfl, by rw [Hid, List.drop_zero]; exact HV.out⟩
      case round =>
        obtain ⟨r, hr, rfl, hv⟩ := hrel
        obtain ⟨z, hz⟩ : ∃ z, bs[r]? = some z := ⟨_, List.getElem?_eq_getElem (by rw [hbl.out]; omega)⟩
        have d3 := hO.out.cell hz
        obtain ⟨m, hm⟩ : ∃ m, m = 9 * i - r := ⟨_, rfl⟩
        rw [← hm]
        have hm1 : 1 ≤ m := by omega
        have hm9 : m ≤ 9000000 := by omega
        have HM := hid hm
        by_cases hgo : 1 < m ∧ z = 48
        · obtain ⟨g1, rfl⟩ := hgo
          have q1 : decide ((1 : Int) < (m : Int)) = true := by simp; omega
          have HN := hid (dv_zero_head hz)
          clear hz hm
          go_wp2_with fail
          go_round
          case rel => exact ⟨r + 1, by have := HM.out; omega, by rw [show 9 * i - (r + 1) = m - 1 by have := HM.out; omega], by rw [Hid, HN.out]; exact hv.out⟩
          case measure => simp; omega
        · have hfin := hid (strip_done HD.out hv.out (by rw [hbl.out]; omega) (by
            rw [hbl.out]
            by_cases h1 : 1 < m
            · right
              rw [hz]
              intro e
              injection e with e
              exact hgo ⟨h1, e⟩
            · left; omega))
          have hcv : (convert 123 9 (.slice (some ⟨w.heap.size, r, none⟩) m m)).run Tryz.prog wr = .ok (numV n) wr := by
            have hlen : (bs.drop r).length = m := by rw [List.length_drop, hbl.out, hm]
            have := Go.run_convert_bytes_back (P := Tryz.prog) wr 123 9 5 ⟨w.heap.size, r, none⟩ m (bs.drop r) Tryz.underlying123 Tryz.underlying5 Tryz.underlying9 (fun j hj => by
              rw [Addr.add_lit]
              refine hO.out.cell ?_
              have h2 : r + j < bs.length := by rw [hlen] at hj; rw [hbl.out]; omega
              rw [List.getElem?_eq_getElem h2, List.getElem_drop])
            rw [hlen, hfin.out] at this
            exact this
          by_cases h1 : 1 < m
          · have q1 : decide ((1 : Int) < (m : Int)) = true := by simp; omega
            have q2 : ((z.toNat : Int) == 48) = false := by
              rw [beq_eq_false_iff_ne]
              intro e
              refine hgo ⟨h1, ?_⟩
              have : z.toNat = (48 : UInt8).toNat := by simp; omega
              exact UInt8.toNat_inj.1 this
            clear hz hm hgo h1
            go_wp2_with fail
            go_ret
            exact ⟨rfl, hB.out⟩
          · obtain rfl : m = 1 := by omega
            clear hz hm hgo h1
            go_wp2_with fail
            go_ret
            exact ⟨rfl, hB.out⟩
end Go.Proofs.YtikfgddgfddbaaaGreatDoor

/- Walks: the reference's Check. -/
namespace Go.Proofs.YtikfgddgfddbaaaGreatDoor
open Go.RowKit
open Go.Lib (decDigits nDigits)
set_option linter.unusedVariables false

set_option maxRecDepth 100000 in
set_option maxHeartbeats 1000000 in
theorem r1_Check (w : World) (s : ByteArray) (hs : s.size ≤ 9223372036854775807) : Calls Tryz.prog 102 #[.string s] w fun e w' => e = .returned (.int .i64 (errN s.data.toList)) ∧ w = w' := by
  have hsl := hid (show s.data.toList.length = s.size from by simp)
  by_cases h0 : s.size = 0
  · have hnil : s.data.toList = [] := List.eq_nil_of_length_eq_zero (by rw [hsl.out, h0])
    obtain rfl : s = ⟨#[]⟩ := by
      cases s with
      | mk d => simp at hnil; rw [hnil]
    clear hsl h0 hnil hs
    go_enter Tryz.func102, Tryz.ntmps102
    go_wp2_with fail
    go_ret
    exact ⟨ret_int (by rw [errN_bad]; exact fun h => h.1 rfl), rfl⟩
  · have hpos : 0 < s.size := by omega
    have hne : s.data.toList.isEmpty = false := by
      rw [List.isEmpty_eq_false_iff]
      intro e
      have := hsl.out; rw [e] at this; simp at this; omega
    have hn : ¬ s.toList = [] := by rw [Go.ByteArray.toList_eq]; intro e; rw [e] at hne; cases hne
    have hn2 : s.toList.isEmpty = false := by rw [Go.ByteArray.toList_eq]; exact hne
    have hb0 := hid (byte_get hpos)
    clear hne
    by_cases hz : s[0] = 48 ∧ 1 < s.size
    · have q1 : ((s[0].toNat : Int) == 48) = true := by rw [hz.1]; rfl
      have q2 : decide ((1 : Int) < (s.size : Int)) = true := by simp; omega
      have hbad := hid (show ¬ isForm s.data.toList from fun h => by
        rcases h.2.1 with h1 | h1
        · have := congrArg List.length h1
          rw [hsl.out] at this; simp at this; omega
        · rw [List.head?_eq_getElem?, hb0.out, hz.1] at h1
          exact h1 rfl)
      clear hz
      go_enter Tryz.func102, Tryz.ntmps102
      go_wp2_with fail
      go_ret
      exact ⟨ret_int (by rw [errN_bad hbad.out]), rfl⟩
    · have hform : allDig s.data.toList → isForm s.data.toList := fun hd => by
        refine ⟨fun e => by have := hsl.out; rw [e] at this; simp at this; omega, ?_, hd⟩
        by_cases h48 : s[0] = 48
        · left
          have h1 : s.data.toList.length = 1 := by
            have : ¬ 1 < s.size := fun h => hz ⟨h48, h⟩
            rw [hsl.out]; omega
          match hm : s.data.toList, h1 with
          | [c], _ =>
            have := hb0.out
            rw [hm] at this
            simp at this
            rw [this, h48]
        · right
          rw [List.head?_eq_getElem?, hb0.out]
          simpa using h48
      have HF := hid hform
      have hI : (((s[0].toNat : Int) == 48) = false ∧ decide ((1 : Int) < (s.size : Int)) = decide ((1 : Int) < (s.size : Int))) ∨ (((s[0].toNat : Int) == 48) = true ∧ decide ((1 : Int) < (s.size : Int)) = false) := by
        by_cases h48 : s[0] = 48
        · right
          have : ¬ 1 < s.size := fun h => hz ⟨h48, h⟩
          refine ⟨by rw [h48]; rfl, by simp; omega⟩
        · left
          refine ⟨?_, rfl⟩
          rw [beq_eq_false_iff_ne]
          intro e
          refine h48 ?_
          have : s[0].toNat = (48 : UInt8).toNat := by simp; omega
          exact UInt8.toNat_inj.1 this
      clear hform hz
      rcases hI with ⟨q1, -⟩ | ⟨q1, q2⟩
      all_goals
        go_enter Tryz.func102, Tryz.ntmps102
        go_wp2_with fail
        clear q1
        go_loop [3] (fun ii => ∃ i : Nat, ii = .int .i64 i ∧ i ≤ s.size ∧ Hid (∀ (j : Nat) (b : UInt8), j < i → s.data.toList[j]? = some b → isDig b = true)) (fun ii => s.size - (intOf ii).toNat)
        case atStart => exact ⟨0, rfl, Nat.zero_le _, fun j b hj => absurd hj (by omega)⟩
        case round =>
          obtain ⟨i, rfl, hi, hI⟩ := hrel
          by_cases hlt : i < s.size
          · have hb := hid (byte_get hlt)
            have hbad : ¬ isDig s[i] = true → ¬ isForm s.data.toList := fun h hf => h (hf.2.2 _ (List.mem_of_getElem? hb.out))
            by_cases c1 : s[i].toNat < 48
            · have q1 : decide ((s[i].toNat : Int) < 48) = true := by simp; omega
              have hB := hid (hbad (fun e => by have := isDig_iff.1 e; omega))
              clear hbad c1
              go_wp2_with fail
              go_ret
              exact ⟨ret_int (by rw [errN_bad hB.out]), rfl⟩
            · by_cases c2 : 57 < s[i].toNat
              · have q1 : decide ((s[i].toNat : Int) < 48) = false := by simp; omega
                have q2 : decide ((57 : Int) < (s[i].toNat : Int)) = true := by simp; omega
                have hB := hid (hbad (fun e => by have := isDig_iff.1 e; omega))
                clear hbad c1 c2
                go_wp2_with fail
                go_ret
                exact ⟨ret_int (by rw [errN_bad hB.out]), rfl⟩
              · have q1 : decide ((s[i].toNat : Int) < 48) = false := by simp; omega
                have q2 : decide ((57 : Int) < (s[i].toNat : Int)) = false := by simp; omega
                have hD := hid (isDig_iff.2 (show 48 ≤ s[i].toNat ∧ s[i].toNat ≤ 57 by omega))
                clear hbad c1 c2
                go_wp2_with fail
                go_round
                case rel => exact ⟨i + 1, by go_num, by omega, fun j b hj hjb => by
                  by_cases e : j = i
                  · subst e; have := hb.out; rw [hjb] at this; cases this; exact hD.out
                  · exact hI.out j b (by omega) hjb⟩
                case measure => simp [intOf] <;> omega
          · obtain rfl : i = s.size := by omega
            have hF := hid (HF.out fun b hb => by
              obtain ⟨j, hj⟩ := List.getElem?_of_mem hb
              exact hI.out j b (by have := (List.getElem?_eq_some_iff.1 hj).1; rw [hsl.out] at this; exact this) hj)
            by_cases hlong : 4000 < s.size
            · have q3 : decide ((4000 : Int) < (s.size : Int)) = true := by simp; omega
              have HL := hid hlong; clear hlong
              go_wp2_with fail
              go_ret
              exact ⟨ret_int (by rw [errN_long hF.out (by rw [hsl.out]; exact HL.out)]), rfl⟩
            · have q3 : decide ((4000 : Int) < (s.size : Int)) = false := by simp; omega
              have HL := hid hlong; clear hlong
              go_wp2_with fail
              go_ret
              exact ⟨ret_int (by rw [errN_ok hF.out (by rw [hsl.out]; exact HL.out)]), rfl⟩
end Go.Proofs.YtikfgddgfddbaaaGreatDoor

/- Walks: the reference's digits. -/
namespace Go.Proofs.YtikfgddgfddbaaaGreatDoor
open Go.RowKit
set_option linter.unusedVariables false

theorem r2_digits (w : World) (s : ByteArray) (hs : s.size ≤ 9223372036854775807) : Calls Tryz.prog 59 #[.string s] w fun e w' =>
    e = .returned (.bool (formB s.data.toList)) ∧ w = w' := by
  by_cases hf : formB s.data.toList = true
  · by_cases hl : 4000 < s.data.toList.length
    · have H5 := hid (show errN s.data.toList = 5 from by rw [errN, if_pos hf, if_pos hl])
      have HF := hid hf
      rw [hf]
      clear hf hl
      go_enter Tryz.func59, Tryz.ntmps59
      go_wp2_with fail
      refine (r1_Check _ s hs).mono ?_; rintro e w1 ⟨rfl, rfl⟩
      rw [H5.out]
      go_wp2_with fail
      go_ret
      exact ⟨rfl, rfl⟩
    · have H5 := hid (show errN s.data.toList = 0 from by rw [errN, if_pos hf, if_neg hl])
      have HF := hid hf
      rw [hf]
      clear hf hl
      go_enter Tryz.func59, Tryz.ntmps59
      go_wp2_with fail
      refine (r1_Check _ s hs).mono ?_; rintro e w1 ⟨rfl, rfl⟩
      rw [H5.out]
      go_wp2_with fail
      go_ret
      exact ⟨rfl, rfl⟩
  · have H5 := hid (show errN s.data.toList = 3 from by rw [errN, if_neg hf])
    have hf' : formB s.data.toList = false := by simpa using hf
    rw [hf']
    clear hf hf'
    go_enter Tryz.func59, Tryz.ntmps59
    go_wp2_with fail
    refine (r1_Check _ s hs).mono ?_; rintro e w1 ⟨rfl, rfl⟩
    rw [H5.out]
    go_wp2_with fail
    go_ret
    exact ⟨rfl, rfl⟩
end Go.Proofs.YtikfgddgfddbaaaGreatDoor

/- Walks: the reference's slash. -/
namespace Go.Proofs.YtikfgddgfddbaaaGreatDoor
open Go.RowKit
set_option linter.unusedVariables false

/-- k is the place of the first slash, or the text's length. -/
def isSlash (l : List UInt8) (k : Nat) : Prop := k ≤ l.length ∧ (∀ (j : Nat) (b : UInt8), j < k → l[j]? = some b → b ≠ 47) ∧ (k < l.length → l[k]? = some 47)

theorem r2_slash (w : World) (s : ByteArray) (hs : s.size ≤ 9223372036854775807) : Calls Tryz.prog 57 #[.string s] w fun e w' =>
    (∃ k : Nat, e = .returned (.int .i64 k) ∧ isSlash s.data.toList k) ∧ w = w' := by
  have hsl := hid (show s.data.toList.length = s.size from by simp)
  go_enter Tryz.func57, Tryz.ntmps57
  go_wp2_with fail
  go_loop [3] (fun ii => ∃ i : Nat, ii = .int .i64 i ∧ i ≤ s.size ∧ Hid (∀ (j : Nat) (b : UInt8), j < i → s.data.toList[j]? = some b → b ≠ 47)) (fun ii => s.size - (intOf ii).toNat)
  case atStart => exact ⟨0, rfl, Nat.zero_le _, fun j b hj => absurd hj (by omega)⟩
  case round =>
    obtain ⟨i, rfl, hi, hI⟩ := hrel
    by_cases hlt : i < s.size
    · have hb := hid (byte_get hlt)
      by_cases c1 : s[i] = 47
      · have q1 : ((s[i].toNat : Int) == 47) = true := by rw [c1]; rfl
        have hB := hid c1
        clear c1
        go_wp2_with fail
        go_ret
        exact ⟨⟨i, rfl, by rw [hsl.out]; omega, hI.out, fun _ => by rw [hb.out, hB.out]⟩, rfl⟩
      · have q1 : ((s[i].toNat : Int) == 47) = false := by
          rw [beq_eq_false_iff_ne]
          intro e
          refine c1 ?_
          have : s[i].toNat = (47 : UInt8).toNat := by simp; omega
          exact UInt8.toNat_inj.1 this
        have hB := hid c1
        clear c1
        go_wp2_with fail
        go_round
        case rel => exact ⟨i + 1, by go_num, by omega, fun j b hj hjb => by
          by_cases e : j = i
          · subst e; rw [hb.out] at hjb; cases hjb; exact hB.out
          · exact hI.out j b (by omega) hjb⟩
        case measure => simp [intOf] <;> omega
    · have e1 : i = s.size := by omega
      subst e1
      go_wp2_with fail
      go_ret
      exact ⟨⟨s.size, rfl, by rw [hsl.out]; omega, hI.out, fun h => by rw [hsl.out] at h; omega⟩, rfl⟩
end Go.Proofs.YtikfgddgfddbaaaGreatDoor

/- Walks: the reference's integer. -/
namespace Go.Proofs.YtikfgddgfddbaaaGreatDoor
open Go.RowKit
set_option linter.unusedVariables false

theorem r2_integer_minus (w : World) (s : ByteArray) (hs : s.size ≤ 9223372036854775807) (h0 : 0 < s.size) (h1 : s[0] = 45) : Calls Tryz.prog 58 #[.string s] w fun e w' =>
    e = .returned (.tuple #[.bool true, .string (s.extract 1 s.size), .bool (formB (s.extract 1 s.size).data.toList && !decide ((s.extract 1 s.size).data.toList = [48]))]) ∧ w = w' := by
  have q0 : decide ((0 : Int) < (s.size : Int)) = true := by simp; omega
  have q1 : ((s[0].toNat : Int) == 45) = true := by rw [h1]; rfl
  have H0 := hid h1
  clear h1
  have hts : (s.extract 1 s.size).size ≤ 9223372036854775807 := by simp; omega
  obtain ⟨t, ht⟩ : ∃ t, s.extract 1 s.size = t := ⟨_, rfl⟩
  rw [ht] at hts ⊢
  have HT := hid ht
  obtain ⟨f, hf⟩ : ∃ f, formB t.data.toList = f := ⟨_, rfl⟩
  rw [hf]
  have HF := hid hf
  clear ht hf
  go_enter Tryz.func58, Tryz.ntmps58
  go_wp2_with fail
  rw [HT.out]
  refine (r2_digits _ t hts).mono ?_; rintro e w1 ⟨rfl, rfl⟩
  rw [HF.out]
  cases f
  · go_wp2_with fail
    exact bodyPost_ret (v := .tuple #[.bool true, .string t, .bool false]) (by simp [results, Tryz.results58, go_sem]) rfl ⟨by simp, rfl⟩
  · go_wp2_with fail
    refine bodyPost_ret (v := .tuple #[.bool true, .string t, .bool (!(t.toList == [48]))]) (by simp [results, Tryz.results58, go_sem]) rfl ⟨?_, rfl⟩
    rw [Go.ByteArray.toList_eq]
    simp
    exact Bool.eq_iff_iff.2 (by simp)

theorem r2_integer_plain (w : World) (s : ByteArray) (hs : s.size ≤ 9223372036854775807) (h1 : ∀ h : 0 < s.size, s[0] ≠ 45) : Calls Tryz.prog 58 #[.string s] w fun e w' =>
    e = .returned (.tuple #[.bool false, .string s, .bool (formB s.data.toList)]) ∧ w = w' := by
  obtain ⟨f, hf⟩ : ∃ f, formB s.data.toList = f := ⟨_, rfl⟩
  rw [hf]
  have HF := hid hf
  clear hf
  by_cases h0 : 0 < s.size
  · have q0 : decide ((0 : Int) < (s.size : Int)) = true := by simp; omega
    have q1 : ((s[0].toNat : Int) == 45) = false := by
      rw [beq_eq_false_iff_ne]
      intro e
      refine h1 h0 ?_
      have : s[0].toNat = (45 : UInt8).toNat := by simp; omega
      exact UInt8.toNat_inj.1 this
    clear h1
    go_enter Tryz.func58, Tryz.ntmps58
    go_wp2_with fail
    refine (r2_digits _ s hs).mono ?_; rintro e w1 ⟨rfl, rfl⟩
    rw [HF.out]
    cases f
    all_goals
      go_wp2_with fail
      exact bodyPost_ret (v := .tuple #[.bool false, .string s, .bool _]) (by simp [results, Tryz.results58, go_sem]) rfl ⟨rfl, rfl⟩
  · obtain rfl : s = ⟨#[]⟩ := by
      apply ByteArray.ext
      exact Array.eq_empty_of_size_eq_zero (by have : s.data.size = s.size := rfl; omega)
    clear h1 h0 hs
    go_enter Tryz.func58, Tryz.ntmps58
    go_wp2_with fail
    refine (r2_digits _ ⟨#[]⟩ (Nat.zero_le _)).mono ?_; rintro e w1 ⟨rfl, rfl⟩
    rw [HF.out]
    cases f
    all_goals
      go_wp2_with fail
      exact bodyPost_ret (v := .tuple #[.bool false, .string ⟨#[]⟩, .bool _]) (by simp [results, Tryz.results58, go_sem]) rfl ⟨rfl, rfl⟩
end Go.Proofs.YtikfgddgfddbaaaGreatDoor

/- Walks: the reference's integer, whole; the slash and the cut. -/
namespace Go.Proofs.YtikfgddgfddbaaaGreatDoor
open Go.RowKit
open Go.Lib (decDigits nDigits)
set_option linter.unusedVariables false

theorem ba_list_iff {a b : ByteArray} : a.data.toList = b.data.toList ↔ a = b := ⟨ba_ext, fun e => by rw [e]⟩

theorem r2_integer (w : World) (s : ByteArray) (hs : s.size ≤ 9223372036854775807) : Calls Tryz.prog 58 #[.string s] w fun e w' =>
    e = .returned (.tuple #[.bool (iM s), .string (iD s), .bool (iB s)]) ∧ w = w' := by
  have hl : s.data.toList.length = s.size := by simp
  by_cases h : ∃ h0 : 0 < s.size, s[0] = 45
  · obtain ⟨h0, h1⟩ := h
    have hg := byte_get h0
    rw [h1] at hg
    obtain ⟨t, ht⟩ : ∃ t, s.data.toList = 45 :: t := by
      cases hc : s.data.toList with
      | nil => rw [hc] at hg; simp at hg
      | cons b t => rw [hc] at hg; simp at hg; exact ⟨t, by rw [hg]⟩
    have hM : iM s = true := by unfold iM Lib.hasPrefix; rw [ht]; simp [List.isPrefixOf]
    have hD : iD s = s.extract 1 s.size := by
      apply ba_ext
      rw [extract_list, ht]
      unfold iD Lib.trimPrefix
      rw [show Lib.hasPrefix s.data.toList [45] = true from hM, ht]
      have : s.size = t.length + 1 := by rw [← hl, ht]; simp
      simp [this]
    have H := r2_integer_minus w s hs h0 h1
    rw [← hD] at H
    have e : iB s = (formB (iD s).data.toList && !decide ((iD s).data.toList = [48])) := by
      unfold iB fB
      rw [hM, Bool.true_and]
      have : decide (iD s = ⟨#[48]⟩) = decide ((iD s).data.toList = [48]) := decide_eq_decide.2 (by rw [← ba_list_iff])
      rw [this]
    rw [hM, e]
    exact H
  · have h1 : ∀ h : 0 < s.size, s[0] ≠ 45 := fun h0 e => h ⟨h0, e⟩
    have hM : iM s = false := by
      unfold iM Lib.hasPrefix
      cases hc : s.data.toList with
      | nil => rfl
      | cons b t =>
        have h0 : 0 < s.size := by rw [← hl, hc]; simp
        have hg := byte_get h0
        rw [hc] at hg
        simp at hg
        have h3 : ((45 : UInt8) == b) = false := by rw [beq_eq_false_iff_ne, hg]; exact fun e => h1 h0 e.symm
        simp [List.isPrefixOf, h3]
    have hD : iD s = s := by
      apply ba_ext
      unfold iD Lib.trimPrefix
      rw [show Lib.hasPrefix s.data.toList [45] = false from hM]
      simp
    have H := r2_integer_plain w s hs h1
    have e : iB s = formB s.data.toList := by unfold iB fB; rw [hM, hD]; simp
    rw [hM, hD, e]
    exact H

/-- The first slash cuts the text. -/
theorem slash_cut {s : ByteArray} {k : Nat} (h : isSlash s.data.toList k) : k ≤ s.size ∧ cW s = s.extract 0 k ∧ cS s = decide (k < s.size) ∧ (k < s.size → cB s = s.extract (k + 1) s.size) := by
  obtain ⟨h1, h2, h3⟩ := h
  have hl : s.data.toList.length = s.size := by simp
  rcases sl_cases s.data.toList with hn | ⟨A, B, hA, e⟩
  · have hk : k = s.size := by
      rcases Nat.lt_or_ge k s.data.toList.length with hlt | hge
      · exact absurd rfl (hn 47 (List.mem_of_getElem? (h3 hlt)))
      · omega
    have hc := cut_none hn
    subst hk
    refine ⟨Nat.le_refl _, ?_, ?_, fun h => absurd h (Nat.lt_irrefl _)⟩
    · apply ba_ext; rw [extract_list]; unfold cW; rw [hc, List.drop_zero, Nat.sub_zero, ← hl, List.take_length]
    · unfold cS; rw [hc]; simp
  · have hL : s.data.toList.length = A.length + 1 + B.length := by rw [e]; simp; omega
    have hk : k = A.length := by
      rcases Nat.lt_trichotomy k A.length with hlt | heq | hgt
      · have := h3 (by omega)
        rw [e, List.getElem?_append_left hlt] at this
        exact absurd rfl (hA 47 (List.mem_of_getElem? this))
      · exact heq
      · exact absurd rfl (h2 A.length 47 hgt (by rw [e]; simp))
    have hc := cut_at (r := B) hA
    rw [← e] at hc
    subst hk
    refine ⟨by omega, ?_, ?_, fun _ => ?_⟩
    · apply ba_ext; rw [extract_list, e]; unfold cW; rw [hc]; simp
    · unfold cS; rw [hc]; simp; omega
    · apply ba_ext; rw [extract_list]; unfold cB; rw [hc]
      have : s.size - (A.length + 1) = B.length := by omega
      rw [this, e, show A ++ 47 :: B = (A ++ [47]) ++ B by simp, List.drop_left' (by simp), List.take_length]
end Go.Proofs.YtikfgddgfddbaaaGreatDoor

/- Walks: the reference's limbs: Order, Plus. -/
namespace Go.Proofs.YtikfgddgfddbaaaGreatDoor
open Go.RowKit
set_option linter.unusedVariables false


set_option maxHeartbeats 2000000 in
theorem r1_Order (w : World) (v u : Value) (a b : Nat) (ha : IsN .i64 w v a) (hb : IsN .i64 w u b) :
    Calls Tryz.prog 61 #[v, u] w fun e w' => e = .returned (.int .i64 (ordN a b)) ∧ Below w.heap.size w w' := by
  obtain ⟨a1, c1, rfl, h1, h2, h3⟩ := ha.openI
  obtain ⟨a2, c2, rfl, k1, k2, k3⟩ := hb.openI
  have H3 := hid h3; have K3 := hid k3; clear h3 k3 ha hb
  by_cases hne : (limbs a).length = (limbs b).length
  · obtain ⟨n, ea⟩ : ∃ n, (limbs a).length = n := ⟨_, rfl⟩
    have eb : (limbs b).length = n := hne.symm.trans ea
    rw [ea] at h1 ⊢
    rw [eb] at k1 ⊢
    have HA := hid ea; have HB := hid eb
    clear hne ea eb
    go_enter Tryz.func61, Tryz.ntmps61
    go_wp2_with fail
    go_loopw [5] (fun i wr => ∃ (k : Nat) (t : Int), k ≤ n ∧ i = .int .i64 t ∧ t = (k : Int) - 1 ∧ Hid ((limbs a).drop k = (limbs b).drop k) ∧ Hid (Below w.heap.size w wr)) (fun i _ => (intOf i + 1).toNat)
    case atStart => exact ⟨n, _, Nat.le_refl _, rfl, rfl, by rw [Hid, List.drop_of_length_le (by rw [HA.out]; exact Nat.le_refl _), List.drop_of_length_le (by rw [HB.out]; exact Nat.le_refl _)], Below.refl _ _⟩
    case round =>
      obtain ⟨k, t, hk, rfl, ht, hd, hB⟩ := hrel
      cases k with
      | zero =>
        obtain rfl : t = -1 := by omega
        clear ht
        go_wp2_with fail
        go_ret
        have : a = b := limbs_inj hd.out
        subst this
        exact ⟨ret_int ordN_eq.symm, hB.out⟩
      | succ k =>
        obtain rfl : t = (k : Int) := by omega
        clear ht
        obtain ⟨x, hx⟩ : ∃ x, (limbs a)[k]? = some x := ⟨_, List.getElem?_eq_getElem (by rw [HA.out]; omega)⟩
        obtain ⟨y, hy⟩ : ∃ y, (limbs b)[k]? = some y := ⟨_, List.getElem?_eq_getElem (by rw [HB.out]; omega)⟩
        obtain ⟨g, o, rfl, hg, hc⟩ := H3.out k x hx
        obtain ⟨g', o', rfl, hg', hc'⟩ := K3.out k y hy
        have d1 := (hB.out.cell (p := ⟨g, o + k, none⟩) hg).trans hc
        have d2 := (hB.out.cell (p := ⟨g', o' + k, none⟩) hg').trans hc'
        have HX := hid hx; have HY := hid hy; clear hx hy hc hc'
        have b1 : (0 : Int) ≤ (k : Int) := by omega
        have b2 : (k : Int) < (n : Int) := by omega
        rcases Nat.lt_trichotomy x y with hlt | heq | hgt
        · have q1 : decide (x < y) = true := by simpa using hlt
          go_wp2_with fail
          go_quiet (fail)
          go_wp2_with fail
          go_ret
          exact ⟨ret_int (ordN_lt (ord_lt_at (HA.out.trans HB.out.symm) HX.out HY.out hd.out hlt)).symm, below_drewN hB.out _⟩
        · have q1 : decide (x < y) = false := by simp; omega
          have q2 : decide (y < x) = false := by simp; omega
          go_wp2_with fail
          go_quiet (fail)
          go_wp2_with fail
          go_quiet (fail)
          go_wp2_with fail
          go_roundw
          case rel => exact ⟨k, _, by omega, rfl, rfl, drop_eq_next HX.out (by rw [HY.out, heq]) hd.out, below_drewN hB.out _⟩
          case measure => simp [intOf] <;> omega
        · have q1 : decide (x < y) = false := by simp; omega
          have q2 : decide (y < x) = true := by simpa using hgt
          go_wp2_with fail
          go_quiet (fail)
          go_wp2_with fail
          go_quiet (fail)
          go_wp2_with fail
          go_ret
          exact ⟨ret_int (ordN_gt (ord_lt_at (HB.out.trans HA.out.symm) HY.out HX.out hd.out.symm hgt)).symm, below_drewN (below_drewN hB.out _) _⟩
  · rcases Nat.lt_or_gt_of_ne hne with hlt | hgt
    · have HL := hid (lt_of_length hlt)
      have q0 : (((limbs a).length : Int) != ((limbs b).length : Int)) = true := by simp; omega
      have q1 : decide ((limbs a).length < (limbs b).length) = true := by simpa using hlt
      clear hne
      go_enter Tryz.func61, Tryz.ntmps61
      go_wp2_with fail
      go_ret
      exact ⟨ret_int (ordN_lt HL.out).symm, Below.refl _ _⟩
    · have HL := hid (lt_of_length hgt)
      have q0 : (((limbs a).length : Int) != ((limbs b).length : Int)) = true := by simp; omega
      have q1 : decide ((limbs a).length < (limbs b).length) = false := by simp; omega
      clear hne
      go_enter Tryz.func61, Tryz.ntmps61
      go_wp2_with fail
      go_ret
      exact ⟨ret_int (ordN_gt HL.out).symm, Below.refl _ _⟩
end Go.Proofs.YtikfgddgfddbaaaGreatDoor

/- Walks: the reference's Times. -/
namespace Go.Proofs.YtikfgddgfddbaaaGreatDoor
open Go.RowKit
set_option linter.unusedVariables false

theorem make_limbs (n : Nat) (hn : n ≤ 3000000) (W : World) : (Instr.makeSlice 49 (.int .i64 (n : Int)) (.int .i64 (n : Int))).run Tryz.prog W = .ok (.slice (some ⟨W.heap.size, 0, none⟩) n n) (W.alloc (.cells (madeCells #[.int .i64 0] n) 3)) :=
  run_make_row' (P := Tryz.prog) 49 3 (.int .i64 0) 8 Tryz.underlying49 (by kernel_rfl) rfl .i64 .i64 n (by omega) (by omega) W

set_option maxRecDepth 100000 in
set_option maxHeartbeats 4000000 in
theorem r1_Times (w : World) (v u : Value) (a b : Nat) (ha : IsN .i64 w v a) (hb : IsN .i64 w u b) (hla : (limbs a).length ≤ 1000000) (hlb : (limbs b).length ≤ 1000000) :
    Calls Tryz.prog 78 #[v, u] w fun e w' => RetN .i64 (a * b) e w' ∧ Below w.heap.size w w' := by
  obtain ⟨a1, c1, rfl, h1, h2, h3⟩ := ha.openI
  obtain ⟨a2, c2, rfl, k1, k2, k3⟩ := hb.openI
  have H3 := hid h3; have K3 := hid k3; clear h3 k3 ha hb
  obtain ⟨n, ea⟩ : ∃ n, (limbs a).length = n := ⟨_, rfl⟩
  obtain ⟨m, eb⟩ : ∃ m, (limbs b).length = m := ⟨_, rfl⟩
  rw [ea] at h1 hla ⊢
  rw [eb] at k1 hlb ⊢
  have HA := hid ea; have HB := hid eb
  clear ea eb
  have hmk : ∀ W : World, (Instr.makeSlice 49 (.int .i64 ((n : Int) + m)) (.int .i64 ((n : Int) + m))).run Tryz.prog W = .ok (.slice (some ⟨W.heap.size, 0, none⟩) (n + m) (n + m)) (W.alloc (.cells (madeCells #[.int .i64 0] (n + m)) 3)) := fun W => by
    have := make_limbs (n + m) (by omega) W
    rwa [Int.natCast_add] at this
  go_enter Tryz.func78, Tryz.ntmps78
  go_wp2_with fail
  clear hmk
  go_loopw [6] (fun i wr => ∃ (k : Nat) (o : List Nat), i = .int .i64 k ∧ k ≤ n ∧ Hid (MulI a b k o) ∧ Hid (Arr .i64 3 wr w.heap.size o) ∧ Hid (Below w.heap.size w wr)) (fun i _ => n - (intOf i).toNat)
  case atStart => exact ⟨0, _, rfl, Nat.zero_le _, MulI.start a b, by rw [HA.out, HB.out]; exact Arr.made w .i64 3 (n + m), (Below.refl _ _).alloc (Nat.le_refl _) _⟩
  case round =>
    obtain ⟨i, o, rfl, hin, hM, hO, hB⟩ := hrel
    by_cases hlt : i < n
    · obtain ⟨x, hx⟩ : ∃ x, (limbs a)[i]? = some x := ⟨_, List.getElem?_eq_getElem (by rw [HA.out]; exact hlt)⟩
      obtain ⟨g, og, rfl, hg, hc⟩ := H3.out _ x hx
      have HX := hid hx; have HC := hid hc; clear hx hc
      have hsize := hid (show o.length = n + m from by rw [hM.out.len, HA.out, HB.out])
      go_wp2_with fail
      obtain ⟨wo, rfl⟩ : ∃ wo : World, wo = wr := ⟨_, rfl⟩
      go_loopw [7, 8, 9] (fun cc kk nn wq => ∃ (c k : Nat) (o : List Nat), cc = .int .i64 c ∧ kk = .int .i64 k ∧ k ≤ m ∧ Hid (MulJ a b i x k c o) ∧ Hid (Arr .i64 3 wq w.heap.size o) ∧ Hid (Below w.heap.size w wq)) (fun _ kk _ _ => m - (intOf kk).toNat)
      case atStart => exact ⟨0, 0, o, rfl, rfl, Nat.zero_le _, hM.out.enter, hO, hB⟩
      case round =>
        obtain ⟨c, k, o, rfl, rfl, hkm, hJ, hO, hB⟩ := hrel
        have hsz : Hid (o.length = n + m) := by rw [Hid, hJ.out.len, HA.out, HB.out]
        by_cases hkl : k < m
        · obtain ⟨y, hy⟩ : ∃ y, (limbs b)[k]? = some y := ⟨_, List.getElem?_eq_getElem (by rw [HB.out]; exact hkl)⟩
          obtain ⟨g', og', rfl, hg', hd⟩ := K3.out _ y hy
          obtain ⟨old, ho⟩ : ∃ old, o[i + k]? = some old := ⟨_, List.getElem?_eq_getElem (by rw [hsz.out]; omega)⟩
          have d1 := (hB.out.cell (p := ⟨g, og + i, none⟩) hg).trans HC.out
          have d2 := (hB.out.cell (p := ⟨g', og' + k, none⟩) hg').trans hd
          have d3 := hO.out.cell ho
          have d4 := hO.out.free (i + k)
          have hb1 := mul_bound (hJ.out.sm.get ho) ((sm_limbs a).get HX.out) ((sm_limbs b).get hy) hJ.out.c1
          have HN := hid (hJ.out.next HX.out hy ho)
          have hol := hJ.out.sm.get ho
          have hcl := hJ.out.c1
          have HP := hid (show ((x : Int) * (y : Int)) = ((x * y : Nat) : Int) from (Int.natCast_mul x y).symm)
          obtain ⟨p, hp⟩ : ∃ p, x * y = p := ⟨_, rfl⟩
          rw [hp] at hb1 HN HP
          have hp2 := hb1.2; have hb1 := hb1.1
          clear hd hy ho hp
          have e1 : (0 : Int) ≤ (i : Int) + k := by omega
          have e2 : (i : Int) + k < (n : Int) + m := by omega
          have f1 : (0 : Int) ≤ (i : Int) := by omega
          have f2 : (i : Int) < (n : Int) := by omega
          have f3 : (0 : Int) ≤ (k : Int) := by omega
          have f4 : (k : Int) < (m : Int) := by omega
          have e3 : IntKind.i64.wrap ((i : Int) + k) = (i : Int) + k := IntWalk.i64_in _ (by omega)
          have e4 : ((i : Int) + k).toNat = i + k := by omega
          have e5 : IntKind.i64.wrap ((x : Int) * (y : Int)) = (p : Int) := by rw [HP.out]; exact IntWalk.i64_in _ (by omega)
          have e6 : IntKind.i64.wrap ((old : Int) + (p : Int)) = (old : Int) + (p : Int) := IntWalk.i64_in _ (by omega)
          have e7 : IntKind.i64.wrap ((old : Int) + (p : Int) + (c : Int)) = (old : Int) + (p : Int) + (c : Int) := IntWalk.i64_in _ (by omega)
          go_wp2_with fail
          go_quiet (fail)
          clear e3 e4 e5 e6 e7
          go_wp2_with fail
          go_roundw
          case rel =>
            have hz : (((old : Int) + p + c) % 1000000000) = (((old + p + c) % 1000000000 : Nat) : Int) := by omega
            rw [hz]
            exact ⟨(old + p + c) / 1000000000, k + 1, _, by go_num, by go_num, by omega, HN, (hO.out.drewN _).set (i + k) _, below_set (below_drewN hB.out _) (Nat.le_refl _) _⟩
          case measure => simp [intOf] <;> omega
        · obtain rfl : k = m := by omega
          have HJ := hid (show MulI a b (i + 1) (o.set (i + k) c) from by have := hJ.out; rw [← HB.out] at this ⊢; exact this.leave HX.out)
          obtain ⟨z, hz⟩ : ∃ z, o[i + k]? = some z := ⟨_, List.getElem?_eq_getElem (by rw [hsz.out]; omega)⟩
          have d3 := hO.out.cell hz
          have d4 := hO.out.free (i + k)
          clear hz
          go_wp2_with fail
          go_roundw
          case rel => exact ⟨i + 1, _, by go_num, by omega, HJ, hO.out.set (i + k) c, below_set hB.out (Nat.le_refl _) _⟩
          case measure => simp [intOf] <;> omega
    · obtain rfl : i = n := by omega
      have hv := hid (show val o = a * b from MulI.done (by have := hM.out; rw [← HA.out] at this; exact this))
      have hl := hid (show o.length = i + m from by rw [hM.out.len, HA.out, HB.out])
      have hr := hid (show Row wr (.slice (some ⟨w.heap.size, 0, none⟩) (i + m) (i + m)) (ints .i64 o) from by
        have := hO.out.row (n := i + m) (c := i + m) (by rw [hl.out]; exact Nat.le_refl _) (Nat.le_refl _) (by unfold maxLen; omega)
        rwa [List.take_of_length_le (by rw [hl.out]; exact Nat.le_refl _)] at this)
      go_wp2_with (go_at_call 103; refine (r1_trim _ _ o hM.out.sm hr.out).mono ?_; rintro e w1 ⟨⟨v1, rfl, hv1⟩, rfl⟩)
      go_ret
      exact ⟨⟨v1, rfl, by rw [← hv.out]; exact hv1⟩, hB.out⟩
end Go.Proofs.YtikfgddgfddbaaaGreatDoor

/- Walks: the reference's Read. -/
namespace Go.Proofs.YtikfgddgfddbaaaGreatDoor
open Go.RowKit
set_option linter.unusedVariables false

set_option maxRecDepth 100000 in
set_option maxHeartbeats 2000000 in
theorem r1_Read (w : World) (s : ByteArray) (hd : allDig s.data.toList) (hs : s.size ≤ 1000000) :
    Calls Tryz.prog 60 #[.string s] w fun e w' => RetN .i64 (dv s.data.toList) e w' ∧ Below w.heap.size w w' := by
  obtain ⟨i0, hi, hz0, hz1, hz2⟩ := info_parts info_int
  have HD := hid hd; clear hd
  have hsl := hid (show s.data.toList.length = s.size from by simp)
  go_enter Tryz.func60, Tryz.ntmps60
  go_wp2_with fail
  go_loopw [3, 4, 5, 6] (fun o ee nn ii wr => ∃ (l : List Nat) (t : Int) (e : Nat), ee = .int .i64 t ∧ t ≤ s.size ∧ -9 < t ∧ e = t.toNat ∧ l.length ≤ s.size ∧ l.length + e ≤ s.size ∧ Hid (ReadI s.data.toList e l) ∧ Hid (wr.ownsRow w.heap.size 3 1 o l.length (ints .i64 l)) ∧ Hid (Below w.heap.size w wr))
    (fun _ ee _ _ _ => (intOf ee).toNat)
  case atStart => exact ⟨[], _, s.size, rfl, by omega, by omega, by simp, by simp, by simp, by have := ReadI.start s.data.toList; rw [hsl.out] at this; exact this, World.ownsRow_nil _ _ _ _, Below.refl _ _⟩
  case round =>
    obtain ⟨l, t, e, rfl, ht1, ht2, he, hl1, hl2, hR, hO, hB⟩ := hrel
    obtain ⟨ao, co, rfl⟩ := owns_ex hO.out
    by_cases h0 : e = 0
    · have q0 : decide ((0 : Int) < t) = false := by simp; omega
      subst h0
      have hv := hid hR.out.done
      clear he
      go_wp2_with fail
      refine (r1_trim _ _ l hR.out.sm (Row.of_owns hO.out)).mono ?_
      rintro e w1 ⟨⟨v1, rfl, hv1⟩, rfl⟩
      go_wp2_with fail
      go_ret
      exact ⟨⟨v1, rfl, by rw [← hv.out]; exact hv1⟩, hB.out⟩
    · obtain rfl : t = (e : Int) := by omega
      clear he
      have q0 : decide ((0 : Int) < (e : Int)) = true := by simp; omega
      obtain ⟨L, hL⟩ : ∃ L, s.data.toList = L := ⟨_, rfl⟩
      obtain ⟨s0, hs0⟩ : ∃ s0, s0 = e - 9 := ⟨_, rfl⟩
      have HS0 := hid hs0
      have h3 : s0 ≤ e := by omega
      have h4 : e ≤ s0 + 9 := by omega
      have hI : (9 < e ∧ (e : Int) - 9 = (s0 : Int)) ∨ (e ≤ 9 ∧ (0 : Int) = (s0 : Int)) := by omega
      clear hs0
      rcases hI with ⟨h9, hse⟩ | ⟨h9, hse⟩
      all_goals
        have HSE := hid hse
        clear hse
        go_wp2_with fail
        go_loop [5, 6] (fun nn ii => ∃ (i x : Nat), ii = .int .i64 i ∧ nn = .int .i64 x ∧ s0 ≤ i ∧ i ≤ e ∧ x < 1000000000 ∧ Hid (x = dv ((L.drop s0).take (i - s0)))) (fun _ ii => e - (intOf ii).toNat)
        case atStart => exact ⟨s0, 0, by have hh := HSE.out; first | (rw [← hh]; done) | (congr 1; omega), rfl, Nat.le_refl _, h3, by omega, by simp [Hid]⟩
        case round =>
          obtain ⟨i, x, rfl, rfl, hi1, hi2, hx, hxd⟩ := hrel
          by_cases hlt : i < e
          · have hsz : i < s.size := by omega
            have hb := byte_get hsz
            rw [hL] at hb
            have hdig := isDig_iff.1 (HD.out s[i] (List.mem_of_getElem? (by rw [hL]; exact hb)))
            have hd1 := hdig.1; have hd2 := hdig.2
            have hcs := hid (chunk_succ hb hi1)
            have hlt9 := hid (chunk_lt (L := L) (a := s0) (k := i + 1 - s0) (by rw [← hL]; exact HD.out) (by omega))
            clear hb hdig
            go_wp2_with fail
            go_round
            case rel =>
              refine ⟨i + 1, 10 * x + (s[i].toNat - 48), by go_num, ?_, by omega, by omega, ?_, ?_⟩
              · congr 1; omega
              · have := hlt9.out; rw [hcs.out, ← hxd.out] at this; exact this
              · rw [Hid, hcs.out, ← hxd.out]
            case measure => simp [intOf] <;> omega
          · obtain rfl : i = e := by omega
            have HN := hid (hR.out.next HD.out)
            rw [hL, ← HS0.out, ← hxd.out] at HN
            go_wp2_with (at_builtin; refine wpList_append_own _ rfl _ _ 49 rfl w.heap.size 3 i0 (.int .i64 0) 1 8 Tryz.underlying49 hi hz0 hz1 hz2 rfl (by decide) _ l.length _ rfl (hO.out.alloc _) ⟨wr.heap.size, 0, none⟩ 1 1 [.int .i64 (x : Int)] rfl rfl (cell_one_new wr (.int .i64 (x : Int)) 3) (by simp [Value.oneCell']) (by unfold maxLen; omega) (by omega) (by have := hB.out.size; simp; omega) ?_; intro v' w3 hown3 hgrow3 _; have HO3 := hid hown3; have HG3 := hid hgrow3; clear hown3 hgrow3)
            obtain ⟨n1, n2⟩ := own_next hO.out hB.out HO3.out HG3.out
            have N1 := hid n1; have N2 := hid n2; clear n1 n2 HO3 HG3
            obtain ⟨a3, k3, rfl⟩ := owns_ex N1.out
            have hS := HS0.out
            go_wp2_with fail
            go_roundw
            case rel => exact ⟨l ++ [x], _, s0, rfl, by omega, by omega, by omega, by simp <;> omega, by simp <;> omega, by rw [hL]; exact HN, N1, N2⟩
            case measure => simp [intOf] <;> omega
end Go.Proofs.YtikfgddgfddbaaaGreatDoor

/- Walks: the reference's Write (whole); texts that are read. -/
namespace Go.Proofs.YtikfgddgfddbaaaGreatDoor
open Go.RowKit
open Go.Lib (decDigits nDigits)
set_option linter.unusedVariables false

theorem r1_Write (w : World) (v : Value) (n : Nat) (h : IsN .i64 w v n) (hl : (limbs n).length ≤ 1000000) : Calls Tryz.prog 77 #[v] w fun e w' => e = .returned (numV n) ∧ Below w.heap.size w w' := by
  rcases Nat.eq_zero_or_pos n with rfl | h0
  · exact r1_Write_zero w v h
  · exact r1_Write_pos w v n h h0 hl

/-- The texts of two numbers that are read. -/
theorem errN_read {s : ByteArray} (h : errN s.data.toList = 0) : ∃ a, s = numB a ∧ nDigits a ≤ 4000 := by
  obtain ⟨a, e, h2⟩ := errN_zero.1 h
  refine ⟨a, ?_, h2⟩
  cases s with
  | mk d =>
    have : d = (decDigits a).toArray := by rw [← e]
    rw [this]; rfl

theorem r1_Read_num (w : World) (a : Nat) (h : nDigits a ≤ 9000) : Calls Tryz.prog 60 #[.string (numB a)] w fun e w' => RetN .i64 a e w' ∧ Below w.heap.size w w' := by
  have := r1_Read w (numB a) (by rw [numB_list]; exact allDig_dec a) (by rw [numB_size]; omega)
  rwa [numB_list, dv_dec] at this
end Go.Proofs.YtikfgddgfddbaaaGreatDoor

/- Walks: the reference's Power. -/
namespace Go.Proofs.YtikfgddgfddbaaaGreatDoor
open Go.RowKit
open Go.Lib (decDigits nDigits)
set_option linter.unusedVariables false

/-- What Power returns. -/
def RetPow (n : Nat) (e : Ending) (w' : World) : Prop :=
  (nDigits n ≤ 4000 ∧ ∃ v, e = .returned (.tuple #[v, .bool true]) ∧ IsN .i64 w' v n) ∨ (4000 < nDigits n ∧ e = .returned (.tuple #[.slice none 0 0, .bool false]))

theorem isN_one (w : World) : IsN .i64 (w.alloc (.cells #[.int .i64 1] 3)) (.slice (some ⟨w.heap.size, 0, none⟩) 1 1) 1 := by
  unfold IsN
  rw [limbs_one]
  exact Row.of_blk (b := w.heap.size) (n := 1) (c := 1) (cs := #[.int .i64 1]) (Blk.new w _ _) rfl (by unfold maxLen; omega) (fun i x hx => by simpa [ints] using hx) (Nat.le_refl _) (by unfold maxLen; omega)

theorem bits_and_one (m : Nat) (h : m < 9223372036854775808) : bits .and .i64 (m : Int) 1 = ((m % 2 : Nat) : Int) := by
  show IntKind.i64.wrap ((BitVec.ofInt 64 (m : Int) &&& BitVec.ofInt 64 1).toNat : Int) = _
  have h1 : (BitVec.ofInt 64 (m : Int)).toNat = m := by rw [BitVec.ofInt_natCast, BitVec.toNat_ofNat]; exact Nat.mod_eq_of_lt (by omega)
  rw [BitVec.toNat_and, h1, show (BitVec.ofInt 64 1).toNat = 1 by rfl, Nat.and_one_is_mod, IntKind.wrap_i64]
  omega

theorem bit_test (n k : Nat) (h : n ≤ 9223372036854775807) : (bits .and .i64 ((n : Int) / 2 ^ k) 1 == 1) = decide (n / 2 ^ k % 2 = 1) := by
  have h1 : ((n : Int) / 2 ^ k) = ((n / 2 ^ k : Nat) : Int) := by rw [Int.natCast_ediv, Int.natCast_pow]; rfl
  have h2 : n / 2 ^ k ≤ n := Nat.div_le_self _ _
  rw [h1, bits_and_one _ (by omega), Bool.eq_iff_iff, beq_iff_eq, decide_eq_true_eq]
  omega

theorem half_pow (a n k : Nat) : a ^ (n / 2 ^ k) = a ^ (n / 2 ^ (k + 1)) * a ^ (n / 2 ^ (k + 1)) * (if n / 2 ^ k % 2 = 1 then a else 1) := by
  have h : n / 2 ^ (k + 1) = n / 2 ^ k / 2 := by rw [Nat.pow_succ, Nat.div_div_eq_div_mul]
  rw [h]
  generalize n / 2 ^ k = m
  have hm : m = m / 2 + m / 2 + m % 2 := by omega
  conv => lhs; rw [hm]
  rw [Nat.pow_add, Nat.pow_add]
  rcases (show m % 2 = 0 ∨ m % 2 = 1 by omega) with e | e
  · rw [e, if_neg (by omega), Nat.pow_zero]
  · rw [e, if_pos rfl, Nat.pow_one]

set_option maxHeartbeats 1000000 in
theorem r1_Power_zero (w : World) (v : Value) (a : Nat) (ha : IsN .i64 w v a) : Calls Tryz.prog 118 #[v, .int .i64 0] w fun e w' => RetPow (a ^ 0) e w' ∧ Below w.heap.size w w' := by
  have H1 := hid (isN_one w)
  go_enter Tryz.func118, Tryz.ntmps118
  go_wp2_with fail
  go_ret2
  exact ⟨.inl ⟨by rw [Nat.pow_zero, nDigits_one]; omega, _, rfl, by rw [Nat.pow_zero]; exact H1.out⟩, (Below.refl _ _).alloc (Nat.le_refl _) _⟩

set_option maxHeartbeats 1000000 in
theorem r1_Power_small (w : World) (v : Value) (a n : Nat) (ha : IsN .i64 w v a) (hs : a ≤ 1) (hn : 0 < n) (hn2 : n ≤ 9223372036854775807) : Calls Tryz.prog 118 #[v, .int .i64 n] w fun e w' => RetPow (a ^ n) e w' ∧ Below w.heap.size w w' := by
  have H1 := hid (isN_one w)
  have HA := hid ha
  have hord := hid (show ordN a 1 ≤ 0 from by unfold ordN; split; · omega
                                              · split <;> omega)
  have hpow := hid (show a ^ n = a ∧ nDigits a ≤ 4000 from by
    rcases (show a = 0 ∨ a = 1 by omega) with rfl | rfl
    · exact ⟨Nat.zero_pow hn, by rw [nDigits_zero]; omega⟩
    · exact ⟨Nat.one_pow n, by rw [nDigits_one]; omega⟩)
  obtain ⟨a1, c1, rfl, _⟩ := ha.openI
  have q0 : ((n : Int) == 0) = false := by simp; omega
  have hb0 : Below w.heap.size w (w.alloc (.cells #[.int .i64 1] 3)) := (Below.refl _ _).alloc (Nat.le_refl _) _
  have HB0 := hid hb0
  clear ha hs hb0
  go_enter Tryz.func118, Tryz.ntmps118
  go_wp2_with fail
  refine (r1_Order _ _ _ a 1 (HA.out.call HB0.out) H1.out).mono ?_; rintro e w1 ⟨rfl, hb1⟩
  have B1 := hid (bnext HB0.out hb1); clear hb1
  obtain ⟨t, ht⟩ : ∃ t, ordN a 1 = t := ⟨_, rfl⟩
  rw [ht] at hord ⊢
  have q1 : decide (t ≤ 0) = true := by have := hord.out; simp; omega
  clear ht
  go_wp2_with fail
  go_ret2
  exact ⟨.inl ⟨by rw [hpow.out.1]; exact hpow.out.2, _, rfl, by rw [hpow.out.1]; exact HA.out.call B1.out⟩, B1.out⟩

set_option maxHeartbeats 1000000 in
theorem r1_Power_big (w : World) (v : Value) (a n : Nat) (ha : IsN .i64 w v a) (hs : 1 < a) (hd : nDigits a ≤ 4000) (hn : 0 < n) (hn2 : n ≤ 9223372036854775807) : Calls Tryz.prog 118 #[v, .int .i64 n] w fun e w' => RetPow (a ^ n) e w' ∧ Below w.heap.size w w' := by
  have H1 := hid (isN_one w)
  have HA := hid ha
  have hord := hid (ordN_gt hs)
  obtain ⟨a1, c1, rfl, _⟩ := ha.openI
  have q0 : ((n : Int) == 0) = false := by simp; omega
  have hb0 : Below w.heap.size w (w.alloc (.cells #[.int .i64 1] 3)) := (Below.refl _ _).alloc (Nat.le_refl _) _
  have HB0 := hid hb0; have HS := hid hs; have HD := hid hd
  clear ha hs hb0 hd
  go_enter Tryz.func118, Tryz.ntmps118
  go_wp2_with fail
  refine (r1_Order _ _ _ a 1 (HA.out.call HB0.out) H1.out).mono ?_; rintro e w1 ⟨rfl, hb1⟩
  have B1 := hid (bnext HB0.out hb1); have O1 := hid (H1.out.call hb1); clear hb1
  rw [hord.out]
  go_wp2_with fail
  go_loopw [7, 8] (fun oo kk wr => ∃ (j : Nat) (t : Int), kk = .int .i64 t ∧ t = (j : Int) - 1 ∧ j ≤ 63 ∧ Hid (IsN .i64 wr oo (a ^ (n / 2 ^ j))) ∧ Hid (nDigits (a ^ (n / 2 ^ j)) ≤ 4000) ∧ Hid (Below w.heap.size w wr)) (fun _ kk _ => (intOf kk + 1).toNat)
  case atStart => exact ⟨63, _, rfl, by omega, by omega, by rw [Nat.div_eq_of_lt (by omega), Nat.pow_zero]; exact O1, by rw [Nat.div_eq_of_lt (by omega), Nat.pow_zero, nDigits_one, Hid]; omega, B1⟩
  case round =>
    obtain ⟨j, t, rfl, ht, hj, hO, hD, hB⟩ := hrel
    obtain ⟨a2, c2, rfl, _⟩ := hO.out.openI
    cases j with
    | zero =>
      obtain rfl : t = -1 := by omega
      clear ht
      go_wp2_with fail
      go_ret2
      have h2 := hD.out
      rw [Nat.pow_zero, Nat.div_one] at h2
      exact ⟨.inl ⟨h2, _, rfl, hO.out.cast (by rw [Nat.pow_zero, Nat.div_one])⟩, hB.out⟩
    | succ k =>
      obtain rfl : t = (k : Int) := by omega
      clear ht
      have hl := hid (limbs_of_digits hD.out)
      have hla := hid (limbs_of_digits HD.out)
      have hbt := bit_test n k hn2
      by_cases hbit : n / 2 ^ k % 2 = 1
      · rw [decide_eq_true hbit] at hbt
        have HM := hid (show a ^ (n / 2 ^ k) = a ^ (n / 2 ^ (k + 1)) * a ^ (n / 2 ^ (k + 1)) * a from by rw [half_pow, if_pos hbit])
        have HLM := hid (show (limbs (a ^ (n / 2 ^ (k + 1)) * a ^ (n / 2 ^ (k + 1)) * a)).length ≤ 1000000 from by have := limbs_mul (limbs_mul hl.out hl.out) hla.out; omega)
        clear hbit
        go_wp2_with fail
        refine (r1_Times _ _ _ _ _ hO.out hO.out (by have := hl.out; omega) (by have := hl.out; omega)).mono ?_
        rintro e w2 ⟨⟨v2, rfl, hv2⟩, hb2⟩
        have V2 := hid hv2; have B2 := hid (bnext hB.out hb2); clear hv2 hb2
        go_wp2_with fail
        refine (r1_Times _ v2 _ _ a V2.out (HA.out.call B2.out) (by have := limbs_mul hl.out hl.out; omega) (by have := hla.out; omega)).mono ?_
        rintro e w3 ⟨⟨v3, rfl, hv3⟩, hb3⟩
        have V3 := hid hv3; have B3 := hid (bnext B2.out hb3); clear hv3 hb3
        obtain ⟨Bs, hBs⟩ : ∃ Bs, numB (a ^ (n / 2 ^ (k + 1)) * a ^ (n / 2 ^ (k + 1)) * a) = Bs := ⟨_, rfl⟩
        have HBS := hid hBs
        have hBz := hid (show Bs.size = nDigits (a ^ (n / 2 ^ (k + 1)) * a ^ (n / 2 ^ (k + 1)) * a) from by rw [← hBs]; exact numB_size _)
        clear hBs
        by_cases hlong : 4000 < nDigits (a ^ (n / 2 ^ (k + 1)) * a ^ (n / 2 ^ (k + 1)) * a)
        · have q3 : decide ((4000 : Int) < (Bs.size : Int)) = true := by rw [hBz.out]; simp; omega
          have HLO := hid (show 4000 < nDigits (a ^ n) from Nat.lt_of_lt_of_le hlong (by rw [← HM.out]; exact nDigits_mono (Nat.pow_le_pow_right (by have := HS.out; omega) (Nat.div_le_self _ _))))
          clear hlong
          go_wp2_with fail
          refine (r1_Write _ v3 (a ^ (n / 2 ^ (k + 1)) * a ^ (n / 2 ^ (k + 1)) * a) V3.out HLM.out).mono ?_; rintro e w9 ⟨rfl, hb9⟩
          have B9 := hid (bnext B3.out hb9); clear hb9
          rw [numV_eq, HBS.out]
          go_wp2_with fail
          go_ret2
          exact ⟨.inr ⟨HLO.out, rfl⟩, B9.out⟩
        · have q3 : decide ((4000 : Int) < (Bs.size : Int)) = false := by rw [hBz.out]; simp; omega
          have HLO := hid (show nDigits (a ^ (n / 2 ^ k)) ≤ 4000 from by rw [HM.out]; omega)
          clear hlong
          go_wp2_with fail
          refine (r1_Write _ v3 (a ^ (n / 2 ^ (k + 1)) * a ^ (n / 2 ^ (k + 1)) * a) V3.out HLM.out).mono ?_; rintro e w9 ⟨rfl, hb9⟩
          have B9 := hid (bnext B3.out hb9); have V9 := hid (V3.out.call hb9); clear hb9
          rw [numV_eq, HBS.out]
          go_wp2_with fail
          go_roundw
          case rel => exact ⟨k, _, rfl, rfl, by omega, by rw [HM.out]; exact V9, HLO, B9⟩
          case measure => simp [intOf] <;> omega
      · rw [decide_eq_false hbit] at hbt
        have HM := hid (show a ^ (n / 2 ^ k) = a ^ (n / 2 ^ (k + 1)) * a ^ (n / 2 ^ (k + 1)) from by rw [half_pow, if_neg hbit, Nat.mul_one])
        have HLM := hid (show (limbs (a ^ (n / 2 ^ (k + 1)) * a ^ (n / 2 ^ (k + 1)))).length ≤ 1000000 from by have := limbs_mul hl.out hl.out; omega)
        clear hbit
        go_wp2_with fail
        refine (r1_Times _ _ _ _ _ hO.out hO.out (by have := hl.out; omega) (by have := hl.out; omega)).mono ?_
        rintro e w2 ⟨⟨v2, rfl, hv2⟩, hb2⟩
        have V2 := hid hv2; have B2 := hid (bnext hB.out hb2); clear hv2 hb2
        obtain ⟨Bs, hBs⟩ : ∃ Bs, numB (a ^ (n / 2 ^ (k + 1)) * a ^ (n / 2 ^ (k + 1))) = Bs := ⟨_, rfl⟩
        have HBS := hid hBs
        have hBz := hid (show Bs.size = nDigits (a ^ (n / 2 ^ (k + 1)) * a ^ (n / 2 ^ (k + 1))) from by rw [← hBs]; exact numB_size _)
        clear hBs
        by_cases hlong : 4000 < nDigits (a ^ (n / 2 ^ (k + 1)) * a ^ (n / 2 ^ (k + 1)))
        · have q3 : decide ((4000 : Int) < (Bs.size : Int)) = true := by rw [hBz.out]; simp; omega
          have HLO := hid (show 4000 < nDigits (a ^ n) from Nat.lt_of_lt_of_le hlong (by rw [← HM.out]; exact nDigits_mono (Nat.pow_le_pow_right (by have := HS.out; omega) (Nat.div_le_self _ _))))
          clear hlong
          go_wp2_with fail
          refine (r1_Write _ v2 (a ^ (n / 2 ^ (k + 1)) * a ^ (n / 2 ^ (k + 1))) V2.out HLM.out).mono ?_; rintro e w9 ⟨rfl, hb9⟩
          have B9 := hid (bnext B2.out hb9); clear hb9
          rw [numV_eq, HBS.out]
          go_wp2_with fail
          go_ret2
          exact ⟨.inr ⟨HLO.out, rfl⟩, B9.out⟩
        · have q3 : decide ((4000 : Int) < (Bs.size : Int)) = false := by rw [hBz.out]; simp; omega
          have HLO := hid (show nDigits (a ^ (n / 2 ^ k)) ≤ 4000 from by rw [HM.out]; omega)
          clear hlong
          go_wp2_with fail
          refine (r1_Write _ v2 (a ^ (n / 2 ^ (k + 1)) * a ^ (n / 2 ^ (k + 1))) V2.out HLM.out).mono ?_; rintro e w9 ⟨rfl, hb9⟩
          have B9 := hid (bnext B2.out hb9); have V9 := hid (V2.out.call hb9); clear hb9
          rw [numV_eq, HBS.out]
          go_wp2_with fail
          go_roundw
          case rel => exact ⟨k, _, rfl, rfl, by omega, by rw [HM.out]; exact V9, HLO, B9⟩
          case measure => simp [intOf] <;> omega

theorem r1_Power (w : World) (v : Value) (a n : Nat) (ha : IsN .i64 w v a) (hd : nDigits a ≤ 4000) (hn2 : n ≤ 9223372036854775807) : Calls Tryz.prog 118 #[v, .int .i64 n] w fun e w' => RetPow (a ^ n) e w' ∧ Below w.heap.size w w' := by
  rcases Nat.eq_zero_or_pos n with rfl | hn
  · exact r1_Power_zero w v a ha
  · by_cases hs : 1 < a
    · exact r1_Power_big w v a n ha hs hd hn hn2
    · exact r1_Power_small w v a n ha (by omega) hn hn2
end Go.Proofs.YtikfgddgfddbaaaGreatDoor

/- Walks: the reference's short. -/
namespace Go.Proofs.YtikfgddgfddbaaaGreatDoor
open Go.RowKit
set_option linter.unusedVariables false

/-- A call gives back a slice that holds n, and the int m. -/
def Ret2N (k : IntKind) (n m : Nat) (e : Ending) (w' : World) : Prop := ∃ v, e = .returned (.tuple #[v, .int k (m : Int)]) ∧ IsN k w' v n

set_option maxRecDepth 100000 in
set_option maxHeartbeats 4000000 in
theorem r1_short (w : World) (v : Value) (a d : Nat) (ha : IsN .i64 w v a) (hd0 : 0 < d) (hd1 : d < 1000000000) (hla : (limbs a).length ≤ 1000000) :
    Calls Tryz.prog 151 #[v, .int .i64 d] w fun e w' => Ret2N .i64 (a / d) (a % d) e w' ∧ Below w.heap.size w w' := by
  obtain ⟨a1, c1, rfl, h1, h2, h3⟩ := ha.openI
  have H3 := hid h3; clear h3 ha
  obtain ⟨n, ea⟩ : ∃ n, (limbs a).length = n := ⟨_, rfl⟩
  rw [ea] at h1 hla ⊢
  have HA := hid ea
  clear ea
  have hmk := fun W => make_limbs n (by omega) W
  have hdz : ((d : Int) == 0) = false := by simp; omega
  go_enter Tryz.func151, Tryz.ntmps151
  go_wp2_with fail
  clear hmk
  go_loopw [7, 8, 9] (fun rr ii nn wr => ∃ (j r : Nat) (t : Int) (o : List Nat), rr = .int .i64 r ∧ ii = .int .i64 t ∧ t = (j : Int) - 1 ∧ j ≤ n ∧ Hid (SmallI a d j r o) ∧ Hid (Arr .i64 3 wr w.heap.size o) ∧ Hid (Below w.heap.size w wr)) (fun _ ii _ _ => (intOf ii + 1).toNat)
  case atStart => exact ⟨n, 0, _, _, rfl, rfl, rfl, Nat.le_refl _, by have := SmallI.start (a := a) hd0; rw [HA.out] at this; exact this, Arr.made w .i64 3 n, (Below.refl _ _).alloc (Nat.le_refl _) _⟩
  case round =>
    obtain ⟨j, r, t, o, rfl, rfl, ht, hj, hS, hO, hB⟩ := hrel
    have hsz : Hid (o.length = n) := by rw [Hid, hS.out.len, HA.out]
    cases j with
    | zero =>
      obtain rfl : t = -1 := by omega
      clear ht
      have hv := hid hS.out.done
      have hr := hid (show Row wr (.slice (some ⟨w.heap.size, 0, none⟩) n n) (ints .i64 o) from by
        have := hO.out.row (n := n) (c := n) (by rw [hsz.out]; exact Nat.le_refl _) (Nat.le_refl _) (by unfold maxLen; omega)
        rwa [List.take_of_length_le (by rw [hsz.out]; exact Nat.le_refl _)] at this)
      go_wp2_with (go_at_call 103; refine (r1_trim _ _ o hS.out.sm hr.out).mono ?_; rintro e w1 ⟨⟨v1, rfl, hv1⟩, rfl⟩)
      go_ret2
      exact ⟨⟨v1, ret_tup (by rw [hv.out.2]), by rw [← hv.out.1]; exact hv1⟩, hB.out⟩
    | succ j =>
      obtain rfl : t = (j : Int) := by omega
      clear ht
      obtain ⟨x, hx⟩ : ∃ x, (limbs a)[j]? = some x := ⟨_, List.getElem?_eq_getElem (by rw [HA.out]; omega)⟩
      obtain ⟨g, og, rfl, hg, hc⟩ := H3.out _ x hx
      have d1 := (hB.out.cell (p := ⟨g, og + j, none⟩) hg).trans hc
      obtain ⟨z, hz⟩ : ∃ z, o[j]? = some z := ⟨_, List.getElem?_eq_getElem (by rw [hsz.out]; omega)⟩
      have d3 := hO.out.cell hz
      have d4 := hO.out.free j
      have HN := hid (hS.out.next hx)
      have hxl := (sm_limbs a).get hx
      have hrl := hS.out.rd
      clear hx hc hz
      go_wp2_with fail
      go_roundw
      case rel =>
        have e1 : (((r : Int) * 1000000000 + x) / d) = (((r * 1000000000 + x) / d : Nat) : Int) := by rw [Int.natCast_ediv]; rfl
        have e2 : (((r : Int) * 1000000000 + x) % d) = (((r * 1000000000 + x) % d : Nat) : Int) := by rw [Int.natCast_emod]; rfl
        rw [e1]
        exact ⟨j, _, _, _, by rw [e2], rfl, by omega, by omega, HN, hO.out.set j _, below_set hB.out (Nat.le_refl _) _⟩
      case measure => simp [intOf] <;> omega
end Go.Proofs.YtikfgddgfddbaaaGreatDoor

/- Walks: the reference's scaled. -/
namespace Go.Proofs.YtikfgddgfddbaaaGreatDoor
open Go.RowKit
set_option linter.unusedVariables false

/-- A call gives back a new array of one limb more, that holds n, and nothing else leads to it. -/
def RetArr (k : IntKind) (t : TypeId) (B n len : Nat) (e : Ending) (w' : World) : Prop := ∃ g o, e = .returned (.slice (some ⟨g, 0, none⟩) len len) ∧ B ≤ g ∧ Arr k t w' g o ∧ o.length = len ∧ Sm o ∧ val o = n

set_option maxRecDepth 100000 in
set_option maxHeartbeats 4000000 in
theorem r1_scaled (w : World) (v : Value) (a d : Nat) (ha : IsN .i64 w v a) (hd1 : d < 1000000000) (hla : (limbs a).length ≤ 1000000) :
    Calls Tryz.prog 152 #[v, .int .i64 d] w fun e w' => RetArr .i64 3 w.heap.size (a * d) ((limbs a).length + 1) e w' ∧ Below w.heap.size w w' := by
  obtain ⟨a1, c1, rfl, h1, h2, h3⟩ := ha.openI
  have H3 := hid h3; clear h3 ha
  obtain ⟨n, ea⟩ : ∃ n, (limbs a).length = n := ⟨_, rfl⟩
  rw [ea] at h1 hla ⊢
  have HA := hid ea
  clear ea
  have hmk : ∀ W : World, (Instr.makeSlice 49 (.int .i64 ((n : Int) + 1)) (.int .i64 ((n : Int) + 1))).run Tryz.prog W = .ok (.slice (some ⟨W.heap.size, 0, none⟩) (n + 1) (n + 1)) (W.alloc (.cells (madeCells #[.int .i64 0] (n + 1)) 3)) := fun W => by
    have := make_limbs (n + 1) (by omega) W
    rwa [Int.natCast_add] at this
  go_enter Tryz.func152, Tryz.ntmps152
  go_wp2_with fail
  clear hmk
  go_loopw [6, 7, 8] (fun cc ii nn wr => ∃ (i c : Nat) (o : List Nat), cc = .int .i64 c ∧ ii = .int .i64 i ∧ i ≤ n ∧ Hid (ScaleI a d i c o) ∧ Hid (Arr .i64 3 wr w.heap.size o) ∧ Hid (Below w.heap.size w wr)) (fun _ ii _ _ => n - (intOf ii).toNat)
  case atStart => exact ⟨0, 0, _, rfl, rfl, Nat.zero_le _, ScaleI.start a d, by rw [HA.out]; exact Arr.made w .i64 3 (n + 1), (Below.refl _ _).alloc (Nat.le_refl _) _⟩
  case round =>
    obtain ⟨i, c, o, rfl, rfl, hin, hS, hO, hB⟩ := hrel
    have hsz : Hid (o.length = n + 1) := by rw [Hid, hS.out.len, HA.out]
    by_cases hlt : i < n
    · obtain ⟨x, hx⟩ : ∃ x, (limbs a)[i]? = some x := ⟨_, List.getElem?_eq_getElem (by rw [HA.out]; exact hlt)⟩
      obtain ⟨g, og, rfl, hg, hc⟩ := H3.out _ x hx
      have d1 := (hB.out.cell (p := ⟨g, og + i, none⟩) hg).trans hc
      obtain ⟨z, hz⟩ : ∃ z, o[i]? = some z := ⟨_, List.getElem?_eq_getElem (by rw [hsz.out]; omega)⟩
      have d3 := hO.out.cell hz
      have d4 := hO.out.free i
      have HN := hid (hS.out.next hd1 hx)
      have hb1 := mul_bound (old := 0) (by omega) ((sm_limbs a).get hx) hd1 hS.out.c1
      have hcl := hS.out.c1
      clear hx hc hz
      have HP := hid (show ((x : Int) * (d : Int)) = ((x * d : Nat) : Int) from (Int.natCast_mul x d).symm)
      obtain ⟨p, hp⟩ : ∃ p, x * d = p := ⟨_, rfl⟩
      rw [hp] at hb1 HN HP
      have hp2 := hb1.2; clear hb1 hp
      have e5 : IntKind.i64.wrap ((x : Int) * (d : Int)) = (p : Int) := by rw [HP.out]; exact IntWalk.i64_in _ (by omega)
      have e5' : wrap64 ((x : Int) * (d : Int)) = (p : Int) := by rw [HP.out]; exact IntWalk.wrap64_in _ (by omega)
      go_wp2_with fail
      clear e5 e5'
      go_roundw
      case rel =>
        have hz : (((p : Int) + c) % 1000000000) = (((p + c) % 1000000000 : Nat) : Int) := by omega
        rw [hz]
        exact ⟨i + 1, (p + c) / 1000000000, _, by go_num, by go_num, by omega, HN, hO.out.set i _, below_set hB.out (Nat.le_refl _) _⟩
      case measure => simp [intOf] <;> omega
    · obtain rfl : i = n := by omega
      obtain ⟨z, hz⟩ : ∃ z, o[i]? = some z := ⟨_, List.getElem?_eq_getElem (by rw [hsz.out]; omega)⟩
      have d3 := hO.out.cell hz
      have d4 := hO.out.free i
      clear hz
      have hD := hid (show val (o.set i c) = a * d ∧ Sm (o.set i c) ∧ (o.set i c).length = i + 1 from by have := hS.out; rw [← HA.out] at this ⊢; exact this.done)
      go_wp2_with fail
      go_ret
      exact ⟨⟨w.heap.size, _, rfl, Nat.le_refl _, hO.out.set i c, hD.out.2.2, hD.out.2.1, hD.out.1⟩, below_set hB.out (Nat.le_refl _) _⟩
end Go.Proofs.YtikfgddgfddbaaaGreatDoor

/- Walks: the reference's step of the long division. -/
namespace Go.Proofs.YtikfgddgfddbaaaGreatDoor
open Go.RowKit
set_option linter.unusedVariables false

/-- What a step leaves: the quotient of the window comes back, the window holds the remainder, nothing else has turned. -/
def StepOut (us vs : List Nat) (gu j n : Nat) (w : World) (e : Ending) (w' : World) : Prop :=
  e = .returned (.int .i64 ((val ((us.drop j).take (n + 1)) / val vs : Nat) : Int)) ∧ ∃ o, WinOut us j n (val ((us.drop j).take (n + 1)) % val vs) o ∧ Arr .i64 3 w' gu o ∧ w.grownBy w' (some gu)

set_option maxRecDepth 100000 in
set_option maxHeartbeats 8000000 in
theorem r1_step (w : World) (gu j cu : Nat) (us : List Nat) (gv ov cv : Nat) (vs : List Nat) (n : Nat) (hS : StepIn us vs j n) (hU : Arr .i64 3 w gu us) (hV : Row w (.slice (some ⟨gv, ov, none⟩) n cv) (ints .i64 vs)) (hne : gv ≠ gu) :
    Calls Tryz.prog 153 #[.slice (some ⟨gu, j, none⟩) (n + 1) cu, .slice (some ⟨gv, ov, none⟩) n cv] w fun e w' => StepOut us vs gu j n w e w' := by
  have n2 := hS.n2; have nm := hS.nm; have lu := hS.lu; have um := hS.um
  have cv' : ∀ i, i < n → w.cell? ⟨gv, ov + i, none⟩ = some (.int .i64 (vs.getD i 0 : Nat)) := fun i hi => by
    obtain ⟨g, o, e, hg, hc⟩ := hV.at (ints_get (getD_some (l := vs) (i := i) (by rw [hS.lv]; exact hi)))
    simp at e
    obtain ⟨rfl, rfl⟩ := e
    exact hc
  have cu' : ∀ i, i ≤ n → w.cell? ⟨gu, j + i, none⟩ = some (.int .i64 (us.getD (j + i) 0 : Nat)) := fun i hi => hU.cell (getD_some (by omega))
  have hE := hid hS.est
  have a0 := cu' n (Nat.le_refl _)
  have a1 := cu' (n - 1) (by omega)
  have a2 := cu' (n - 2) (by omega)
  have b1 := cv' (n - 1) (by omega)
  have b2 := cv' (n - 2) (by omega)
  have CV := hid cv'; have CU := hid cu'; have HS := hid hS; have HU := hid hU
  clear cv' cu' hS hU hV
  obtain ⟨u0, hu0⟩ : ∃ x, us.getD (j + n) 0 = x := ⟨_, rfl⟩
  obtain ⟨u1, hu1⟩ : ∃ x, us.getD (j + (n - 1)) 0 = x := ⟨_, rfl⟩
  obtain ⟨u2, hu2⟩ : ∃ x, us.getD (j + (n - 2)) 0 = x := ⟨_, rfl⟩
  obtain ⟨v1, hv1⟩ : ∃ x, vs.getD (n - 1) 0 = x := ⟨_, rfl⟩
  obtain ⟨v2, hv2⟩ : ∃ x, vs.getD (n - 2) 0 = x := ⟨_, rfl⟩
  rw [hu0, hu1, hu2, hv1, hv2] at hE
  rw [hu0] at a0; rw [hu1] at a1; rw [hu2] at a2; rw [hv1] at b1; rw [hv2] at b2
  have HU0 := hid hu0; clear hu0 hu1 hu2 hv1 hv2
  have l0 := hE.out.b0; have l1 := hE.out.b1; have l2 := hE.out.b2; have l3 := hE.out.c1; have l4 := hE.out.c2; have l5 := hE.out.v0
  have dz : ((v1 : Int) == 0) = false := by simp; omega
  have f1 : (0 : Int) ≤ (n : Int) - 1 := by omega
  have f2 : (n : Int) - 1 < (n : Int) + 1 := by omega
  have f3 : (n : Int) - 1 < (n : Int) := by omega
  have f4 : (0 : Int) ≤ (n : Int) - 2 := by omega
  have f5 : (n : Int) - 2 < (n : Int) + 1 := by omega
  have f6 : (n : Int) - 2 < (n : Int) := by omega
  have f7 : (0 : Int) ≤ (n : Int) := by omega
  have f8 : (n : Int) < (n : Int) + 1 := by omega
  have e1 : IntKind.i64.wrap ((n : Int) - 1) = (n : Int) - 1 := IntWalk.i64_in _ (by omega)
  have e2 : IntKind.i64.wrap ((n : Int) - 2) = (n : Int) - 2 := IntWalk.i64_in _ (by omega)
  have e3 : ((n : Int) - 1).toNat = n - 1 := by omega
  have e4 : ((n : Int) - 2).toNat = n - 2 := by omega
  have e5 : IntKind.i64.wrap ((u0 : Int) * 1000000000) = (u0 : Int) * 1000000000 := IntWalk.i64_in _ (by omega)
  have e6 : IntKind.i64.wrap ((u0 : Int) * 1000000000 + u1) = (u0 : Int) * 1000000000 + u1 := IntWalk.i64_in _ (by omega)
  go_enter Tryz.func153, Tryz.ntmps153
  go_wp2_with fail
  go_quiet (fail)
  clear e5 e6
  go_wp2_with fail
  go_quiet (fail)
  go_upto_block 0 with (fail)
  rename_i nq1 nq2
  obtain ⟨V, hV⟩ : ∃ V, val vs = V := ⟨_, rfl⟩
  obtain ⟨U, hU⟩ : ∃ U, val ((us.drop j).take (n + 1)) = U := ⟨_, rfl⟩
  rw [hU, hV] at hE
  have HVU := hid (And.intro hU hV); clear hU hV
  go_cut [7] (fun gg wx => ∃ (G q : Nat), gg = .int .i64 G ∧ wx = w.drewN q ∧ G < 1000000000 ∧ Hid (U / V ≤ G ∧ G * V < U + V))
  case first =>
    go_wp2_with fail
    go_loopw [7, 8] (fun gg rr wr => ∃ G R q : Nat, gg = .int .i64 G ∧ rr = .int .i64 R ∧ wr = w.drewN q ∧ Hid (EstI U V u0 u1 v1 G R)) (fun gg _ _ => (intOf gg).toNat)
    case atStart =>
      exact ⟨_, _, _, by rw [Int.natCast_ediv]; rfl, by rw [Int.natCast_emod]; rfl, by rw [World.drewN_drewN], EstI.start hE.out⟩
    case round =>
      obtain ⟨G, R, q, rfl, rfl, rfl, hI⟩ := hrel
      have g2 := hI.out.g2; have r2 := hI.out.r2
      by_cases hR : R < 1000000000
      · have q1 : decide ((R : Int) < 1000000000) = true := by simp; omega
        by_cases hG : 1000000000 ≤ G
        · have q2 : decide ((1000000000 : Int) ≤ (G : Int)) = true := by simp; omega
          have HN := hid (hI.out.big hE.out hR hG)
          go_wp2_with fail
          go_big_quiet (fail)
          clear q1 q2
          go_wp2_with fail
          go_quiet (fail)
          go_wp2_with fail
          go_roundw
          case rel => exact ⟨G - 1, R + v1, _, by go_num, by go_num, by rw [World.drewN_drewN, World.drewN_drewN], HN⟩
          case measure => simp [intOf] <;> omega
        · have q2 : decide ((1000000000 : Int) ≤ (G : Int)) = false := by simp; omega
          obtain ⟨p, hp⟩ : ∃ p, G * v2 = p := ⟨_, rfl⟩
          have hpb : p ≤ 999999999 * 999999999 := by rw [← hp]; exact Nat.mul_le_mul (by omega) (by omega)
          have HPI := hid (show ((G : Int) * (v2 : Int)) = (p : Int) from by rw [← Int.natCast_mul, hp])
          by_cases hT : R * 1000000000 + u2 < p
          · have q3 : decide ((R : Int) * 1000000000 + u2 < (p : Int)) = true := by simp; omega
            have HN := hid (hI.out.less hE.out hR (by rw [hp]; exact hT))
            have hg0 := HN.out.2
            clear hp hT
            obtain ⟨x5, x6, x7⟩ : IntKind.i64.wrap ((G : Int) * (v2 : Int)) = (p : Int) ∧ IntKind.i64.wrap ((R : Int) * 1000000000) = (R : Int) * 1000000000 ∧ IntKind.i64.wrap ((R : Int) * 1000000000 + u2) = (R : Int) * 1000000000 + u2 := by
              refine ⟨by rw [HPI.out]; exact IntWalk.i64_in _ (by omega), IntWalk.i64_in _ (by omega), IntWalk.i64_in _ (by omega)⟩
            go_wp2_with fail
            go_big_quiet (fail)
            clear q1 q2 q3 x5 x6 x7
            go_wp2_with fail
            go_quiet (fail)
            go_wp2_with fail
            go_roundw
            case rel => exact ⟨G - 1, R + v1, _, by go_num, by go_num, by rw [World.drewN_drewN, World.drewN_drewN], HN.out.1⟩
            case measure => simp [intOf] <;> omega
          · have q3 : decide ((R : Int) * 1000000000 + u2 < (p : Int)) = false := by simp; omega
            have HD := hid (hI.out.done hE.out (.inr ⟨by omega, by rw [hp]; omega⟩))
            have HQ := hid hI.out.q
            clear hp hT
            obtain ⟨x5, x6, x7⟩ : IntKind.i64.wrap ((G : Int) * (v2 : Int)) = (p : Int) ∧ IntKind.i64.wrap ((R : Int) * 1000000000) = (R : Int) * 1000000000 ∧ IntKind.i64.wrap ((R : Int) * 1000000000 + u2) = (R : Int) * 1000000000 + u2 := by
              refine ⟨by rw [HPI.out]; exact IntWalk.i64_in _ (by omega), IntWalk.i64_in _ (by omega), IntWalk.i64_in _ (by omega)⟩
            go_wp2_with fail
            go_big_quiet (fail)
            clear q1 q2 q3 x5 x6 x7
            go_wp2_with fail
            go_meet
            exact ⟨G, _, rfl, by rw [World.drewN_drewN], HD.out.1, HQ.out, HD.out.2⟩
      · have q1 : decide ((R : Int) < 1000000000) = false := by simp; omega
        have HD := hid (hI.out.done hE.out (.inl (by omega)))
        have HQ := hid hI.out.q
        go_wp2_with fail
        go_big_quiet (fail)
        clear q1
        go_wp2_with fail
        go_meet
        exact ⟨G, _, rfl, by rw [World.drewN_drewN], HD.out.1, HQ.out, HD.out.2⟩
  case rest =>
    obtain ⟨G, q, rfl, rfl, hG, hQ⟩ := hcut
    have hE1 := hE
    clear a0 a1 a2 b1 b2 dz f1 f2 f3 f4 f5 f6 f7 f8 e1 e2 e3 e4 hE l0 l1 l2 l3 l4 l5
    go_wp2_with fail
    go_loopw [9, 10, 11, 12] (fun bb ii tt xx wr => ∃ (i c : Nat) (o : List Nat), bb = .int .i64 c ∧ ii = .int .i64 i ∧ i ≤ n ∧ Hid (MsubI us vs j n G i c o) ∧ Hid (Arr .i64 3 wr gu o) ∧ Hid (w.grownBy wr (some gu))) (fun _ ii _ _ _ => n - (intOf ii).toNat)
    case atStart => exact ⟨0, 0, us, rfl, rfl, Nat.zero_le _, MsubI.start HS.out.su, HU.out.drewN q, gb_drewN (World.grownBy.refl w _) q⟩
    case round =>
      obtain ⟨i, c, o, rfl, rfl, hin, hM, hO, hB⟩ := hrel
      have hol := hid hM.out.len
      have hcG := hM.out.c1
      by_cases hlt : i < n
      · have d1 := hO.out.cell (getD_some (l := o) (i := j + i) (by rw [hol.out]; omega))
        have d4 := hO.out.free (j + i)
        have d2 := gb_cell hB.out (CV.out i hlt) hne
        have hvl := HS.out.sv.getD i
        have hul := HS.out.su.getD (j + i)
        rw [getD_drop_eq hM.out.hi] at d1
        obtain ⟨T, M, z, c', hT, hM1, hz, hc', z1, z2, z3, z4, z5, z6, z7, z8⟩ := ref_msub hul hcG hG hvl
        have HN := hid (hM.out.next (by omega) lu z1 z2 z3)
        obtain ⟨ui, hui⟩ : ∃ x, us.getD (j + i) 0 = x := ⟨_, rfl⟩
        obtain ⟨vi, hvi⟩ : ∃ x, vs.getD i 0 = x := ⟨_, rfl⟩
        rw [hui] at d1 hul hT; rw [hvi] at d2 hvl hT
        clear hui hvi z3
        obtain ⟨p, hp⟩ : ∃ p, G * vi = p := ⟨_, rfl⟩
        have hpb : p ≤ 999999999 * 999999999 := by rw [← hp]; exact Nat.mul_le_mul (by omega) (by omega)
        have HPI := hid (show ((G : Int) * (vi : Int)) = (p : Int) from by rw [← Int.natCast_mul, hp])
        rw [hp] at hT
        have HT := hid hT; have HM1 := hid hM1; have HZ := hid hz; have HC := hid hc'
        clear hp hT hM1 hz hc'
        have f1 : (0 : Int) ≤ (i : Int) := by omega
        have f2 : (i : Int) < (n : Int) := by omega
        have f3 : (i : Int) < (n : Int) + 1 := by omega
        obtain ⟨x5, x6, x7⟩ : IntKind.i64.wrap ((G : Int) * (vi : Int)) = (p : Int) ∧ IntKind.i64.wrap ((ui : Int) - c) = (ui : Int) - c ∧ IntKind.i64.wrap ((ui : Int) - c - p) = T := by
          refine ⟨by rw [HPI.out]; exact IntWalk.i64_in _ (by omega), IntWalk.i64_in _ (by omega), by rw [HT.out]; exact IntWalk.i64_in _ (by omega)⟩
        go_wp2_with fail
        go_quiet (fail)
        clear x5 x6 x7
        have y1 := HM1.out; have y2 := HZ.out; have y3 := HC.out
        go_wp2_with fail
        clear y1 y2 y3
        go_roundw
        case rel => exact ⟨i + 1, c', _, by rw [HC.out], by go_num, by omega, HN, (hO.out.drewN _).set (j + i) z, gb_set (gb_drewN hB.out _) _ _⟩
        case measure => simp [intOf] <;> omega
      · obtain rfl : i = n := by omega
        have hg0 := getD_drop_eq hM.out.hi
        have d1 := hO.out.cell (getD_some (l := o) (i := j + i) (by rw [hol.out]; omega))
        have d4 := hO.out.free (j + i)
        rw [hg0, HU0.out] at d1
        have hV0 := hE1.out.pos
        have l0 := hE1.out.b0
        clear hg0
        by_cases hc : c ≤ u0
        · obtain ⟨r1, r2, r3⟩ := hM.out.fits lu HS.out.lv HS.out.sv HVU.out.1 HVU.out.2 HU0.out hQ.out.1 hV0 hc
          have R1 := hid r1; have R3 := hid r3
          subst r2
          clear r1 r3 hc
          go_wp2_with fail
          refine wp_loop_rounds 1 ?_
          rw [rounds_succ]
          go_wp2_with fail
          go_ret
          refine ⟨ret_int (by rw [HVU.out.1, HVU.out.2, ← R1.out]), _, by rw [HVU.out.1, HVU.out.2]; exact R3.out, hO.out.set (j + i) 0, gb_set hB.out _ _⟩
        · obtain ⟨hc1, hadd⟩ := hM.out.lacks lu HS.out.lv HS.out.sv HVU.out.1 HVU.out.2 HU0.out hQ.out.1 hQ.out.2 hV0 (by omega)
          have HADD := hid hadd
          have hsub : ((u0 : Int) - (c : Int)) = -1 := by omega
          have hcb : (c : Int) ≤ 1000000000 := by omega
          have HN := hid (hO.out.setN (j + i) (-1))
          have HG := hid (gb_set hB.out (j + i) (.int .i64 (-1)))
          clear hadd hc hc1
          go_wp2_with fail
          refine wp_loop_rounds 2 ?_
          rw [rounds_succ]
          clear hsub
          obtain ⟨wx, hwx⟩ : ∃ wx, wr.setCell ⟨gu, j + i, none⟩ (.int .i64 (-1)) = wx := ⟨_, rfl⟩
          rw [hwx] at HN HG ⊢
          clear hwx d1 d4
          have k1 := HN.out.self (m := j + i) (by rw [hol.out]; omega)
          go_wp2_with fail
          go_loopw [13, 14, 15] (fun cc ii tt wq => ∃ (y k : Nat) (p : List Nat), cc = .int .i64 k ∧ ii = .int .i64 y ∧ y ≤ i ∧ Hid (AddI o vs j y k p) ∧ Hid (ArrN .i64 3 wq gu p (j + i) (-1)) ∧ Hid (w.grownBy wq (some gu))) (fun _ ii _ _ => i - (intOf ii).toNat)
          case atStart => exact ⟨0, 0, o, rfl, rfl, Nat.zero_le _, AddI.start hM.out.sm, HN, HG⟩
          case round =>
            obtain ⟨y, k, p, rfl, rfl, hyi, hA, hP, hB2⟩ := hrel
            have hpl := hid (show p.length = us.length from by rw [hA.out.len, hol.out])
            by_cases hlt2 : y < i
            · have d1 := hP.out.cell (i := j + y) (by omega) (getD_some (l := p) (i := j + y) (by rw [hpl.out]; omega))
              have d4 := hP.out.free (j + y)
              have d2 := gb_cell hB2.out (CV.out y hlt2) hne
              rw [getD_drop_eq hA.out.hi] at d1
              have HN2 := hid (hA.out.next hM.out.sm HS.out.sv (by rw [hol.out]; omega))
              have hvl := HS.out.sv.getD y
              have hul := hM.out.sm.getD (j + y)
              have hk1 := hA.out.k1
              obtain ⟨ui, hui⟩ : ∃ x, o.getD (j + y) 0 = x := ⟨_, rfl⟩
              obtain ⟨vi, hvi⟩ : ∃ x, vs.getD y 0 = x := ⟨_, rfl⟩
              rw [hui] at d1 hul; rw [hvi] at d2 hvl; rw [hui, hvi] at HN2
              clear hui hvi
              have f1 : (0 : Int) ≤ (y : Int) := by omega
              have f2 : (y : Int) < (i : Int) := by omega
              have f3 : (y : Int) < (i : Int) + 1 := by omega
              have hkI : (k : Int) ≤ 1 := by omega
              obtain ⟨x5, x6⟩ : IntKind.i64.wrap ((ui : Int) + vi) = (ui : Int) + vi ∧ IntKind.i64.wrap ((ui : Int) + vi + k) = (ui : Int) + vi + k := by
                refine ⟨IntWalk.i64_in _ (by omega), IntWalk.i64_in _ (by omega)⟩
              go_wp2_with fail
              go_quiet (fail)
              clear x5 x6
              go_wp2_with fail
              go_roundw
              case rel =>
                have hz : (((ui : Int) + vi + k) % 1000000000) = (((ui + vi + k) % 1000000000 : Nat) : Int) := by omega
                rw [hz]
                exact ⟨y + 1, _, _, by go_num, by go_num, by omega, HN2, (hP.out.drewN _).set (by omega) _, gb_set (gb_drewN hB2.out _) _ _⟩
              case measure => simp [intOf] <;> omega
            · obtain rfl : y = i := by omega
              obtain ⟨r0, r1, r2, r3⟩ := HADD.out k p hA.out
              subst r0
              have R1 := hid r1; have R3 := hid r3
              have k1 := hP.out.self (m := j + y) (by rw [hpl.out]; omega)
              have k2 := hP.out.free (j + y)
              clear r1 r3
              go_wp2_with fail
              rw [rounds_succ]
              go_wp2_with fail
              go_ret
              refine ⟨ret_int (by rw [HVU.out.1, HVU.out.2, R1.out]; omega), _, by rw [HVU.out.1, HVU.out.2]; exact R3.out, hP.out.back 0, gb_set hB2.out _ _⟩
end Go.Proofs.YtikfgddgfddbaaaGreatDoor
