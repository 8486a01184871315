/- Texts that the proof rests on, merged: Ser, Cv3, Cv4, Tot2, Cv5, Cv6, Pl4, Pl5, Pl6, QPlus, Dig, Pn3, Pn4, Cv7, Cv8, Vw, Dy, Fd0, Tot3, Cv9, C3, C4, Lasts, Last2, C5, C6, E1, SeqB. -/
import Derived.Test.YtgphopkifomffaaGreatDoorMn4
import Derived.Sort.KeysCollected
import Derived.Test.YtgphopkifomffaaGreatDoorProg
import Derived.Maps.StringElems
import Derived.Lib.ItoaMem
namespace Go.Proofs.YtgphopkifomffaaGreatDoor
open Go.RowKit
open Go.Lib (decDigits nDigits)
def ser (N D : Nat) (l : List UInt8) : Nat → Nat → Nat → List Nat → Nat → Option (List Nat × Nat)
  | 0, _, _, _, _ => none
  | f + 1, m, p, vs, n =>
    if (coinF N D l p).1 = false then none
    else if (coinF N D l p).2.1 = 1 then ser N D l f m (p + (coinF N D l p).2.2) vs (n + 1)
    else if m ≤ 1 then some (vs ++ [n], p + (coinF N D l p).2.2)
    else ser N D l f (m - 1) (p + (coinF N D l p).2.2) (vs ++ [n]) 0
theorem coinF_one {N D : Nat} (h : N < D) {l : List UInt8} {p : Nat} (hd : (coinF N D l p).1 = true) (hv : (coinF N D l p).2.1 = 1) : 1 ≤ (coinF N D l p).2.2 := by
  rw [coinF_eq] at *
  exact toss_one h hd hv
theorem ser_fuel {N D : Nat} (h : N < D) {l : List UInt8} : ∀ (f f' m p : Nat) (vs : List Nat) (n : Nat), 1 ≤ m → p ≤ l.length → l.length - p + m ≤ f → l.length - p + m ≤ f' → ser N D l f m p vs n = ser N D l f' m p vs n := by
  intro f
  induction f with
  | zero => intro f' m p vs n hm hp h1 h2; omega
  | succ f ih =>
    intro f' m p vs n hm hp h1 h2
    cases f' with
    | zero => omega
    | succ f' =>
      have hle := coinF_le (N := N) (D := D) hp
      simp only [ser]
      split
      · rfl
      · rename_i hd
        have hd' : (coinF N D l p).1 = true := by simpa using hd
        split
        · rename_i hv
          have := coinF_one h hd' hv
          exact ih _ _ _ _ _ hm hle (by omega) (by omega)
        · split
          · rfl
          · exact ih _ _ _ _ _ (by omega) hle (by omega) (by omega)
def sr (N D : Nat) (l : List UInt8) (m p : Nat) (vs : List Nat) (n : Nat) : Option (List Nat × Nat) := ser N D l (l.length - p + m) m p vs n
theorem sr_of {N D : Nat} (h : N < D) {l : List UInt8} {f m p n : Nat} {vs : List Nat} (hm : 1 ≤ m) (hp : p ≤ l.length) (hf : l.length - p + m ≤ f) : ser N D l f m p vs n = sr N D l m p vs n := ser_fuel h _ _ _ _ _ _ hm hp hf (Nat.le_refl _)
theorem sr_unfold {N D : Nat} {l : List UInt8} {m p n : Nat} {vs : List Nat} (hm : 1 ≤ m) : sr N D l m p vs n = ser N D l ((l.length - p + m - 1) + 1) m p vs n := by
  unfold sr
  rw [show l.length - p + m - 1 + 1 = l.length - p + m by omega]
theorem sr_late {N D : Nat} {l : List UInt8} {m p n : Nat} {vs : List Nat} (hm : 1 ≤ m) (hd : (coinF N D l p).1 = false) : sr N D l m p vs n = none := by
  rw [sr_unfold hm, ser, if_pos hd]
theorem sr_one {N D : Nat} (h : N < D) {l : List UInt8} {m p n : Nat} {vs : List Nat} (hm : 1 ≤ m) (hp : p ≤ l.length) (hd : (coinF N D l p).1 = true) (hv : (coinF N D l p).2.1 = 1) : sr N D l m p vs n = sr N D l m (p + (coinF N D l p).2.2) vs (n + 1) := by
  have hle := coinF_le (N := N) (D := D) hp
  have := coinF_one h hd hv
  rw [sr_unfold hm, ser, if_neg (by simp [hd]), if_pos hv]
  exact sr_of h hm hle (by omega)
theorem sr_stop {N D : Nat} {l : List UInt8} {p n : Nat} {vs : List Nat} (hd : (coinF N D l p).1 = true) (hv : ¬ (coinF N D l p).2.1 = 1) : sr N D l 1 p vs n = some (vs ++ [n], p + (coinF N D l p).2.2) := by
  rw [sr_unfold (Nat.le_refl 1), ser, if_neg (by simp [hd]), if_neg hv, if_pos (Nat.le_refl 1)]
theorem sr_more {N D : Nat} (h : N < D) {l : List UInt8} {m p n : Nat} {vs : List Nat} (hm : 2 ≤ m) (hp : p ≤ l.length) (hd : (coinF N D l p).1 = true) (hv : ¬ (coinF N D l p).2.1 = 1) : sr N D l m p vs n = sr N D l (m - 1) (p + (coinF N D l p).2.2) (vs ++ [n]) 0 := by
  have hle := coinF_le (N := N) (D := D) hp
  rw [sr_unfold (by omega), ser, if_neg (by simp [hd]), if_neg hv, if_neg (by omega)]
  exact sr_of h (by omega) hle (by omega)
def s1 (N D : Nat) (l : List UInt8) (p n : Nat) : Option (Nat × Nat) := match sr N D l 1 p [] n with | some (x :: _, at') => some (x, at') | _ => none
theorem sr_one_eq {N D : Nat} (h : N < D) {l : List UInt8} : ∀ (f p : Nat) (vs : List Nat) (n : Nat), p ≤ l.length → l.length - p ≤ f → sr N D l 1 p vs n = match s1 N D l p n with | some (x, a) => some (vs ++ [x], a) | none => none := by
  intro f
  induction f with
  | zero =>
    intro p vs n hp hf
    cases hd : (coinF N D l p).1
    · rw [s1, sr_late (Nat.le_refl 1) hd, sr_late (Nat.le_refl 1) hd]
    · by_cases hv : (coinF N D l p).2.1 = 1
      · have := coinF_one h hd hv
        have := coinF_le (N := N) (D := D) hp
        omega
      · rw [s1, sr_stop hd hv, sr_stop hd hv]
        rfl
  | succ f ih =>
    intro p vs n hp hf
    cases hd : (coinF N D l p).1
    · rw [s1, sr_late (Nat.le_refl 1) hd, sr_late (Nat.le_refl 1) hd]
    · by_cases hv : (coinF N D l p).2.1 = 1
      · have := coinF_one h hd hv
        have hle := coinF_le (N := N) (D := D) hp
        rw [s1, sr_one h (Nat.le_refl 1) hp hd hv, sr_one h (Nat.le_refl 1) hp hd hv, ih _ _ _ hle (by omega)]
        rfl
      · rw [s1, sr_stop hd hv, sr_stop hd hv]
        rfl
theorem s1_le {N D : Nat} (h : N < D) {l : List UInt8} : ∀ (f p n x a : Nat), p ≤ l.length → l.length - p ≤ f → s1 N D l p n = some (x, a) → p ≤ a ∧ a ≤ l.length ∧ x ≤ n + (a - p) := by
  intro f
  induction f with
  | zero =>
    intro p n x a hp hf hs
    cases hd : (coinF N D l p).1
    · rw [s1, sr_late (Nat.le_refl 1) hd] at hs; cases hs
    · by_cases hv : (coinF N D l p).2.1 = 1
      · have := coinF_one h hd hv
        have := coinF_le (N := N) (D := D) hp
        omega
      · rw [s1, sr_stop hd hv] at hs
        simp at hs
        have := coinF_le (N := N) (D := D) hp
        omega
  | succ f ih =>
    intro p n x a hp hf hs
    cases hd : (coinF N D l p).1
    · rw [s1, sr_late (Nat.le_refl 1) hd] at hs; cases hs
    · by_cases hv : (coinF N D l p).2.1 = 1
      · have := coinF_one h hd hv
        have hle := coinF_le (N := N) (D := D) hp
        rw [s1, sr_one h (Nat.le_refl 1) hp hd hv] at hs
        have := ih _ _ _ _ hle (by omega) hs
        omega
      · rw [s1, sr_stop hd hv] at hs
        simp at hs
        have := coinF_le (N := N) (D := D) hp
        omega
theorem sr_two {N D : Nat} (h : N < D) {l : List UInt8} : ∀ (f p : Nat) (vs : List Nat) (n : Nat), p ≤ l.length → l.length - p ≤ f → sr N D l 2 p vs n = match s1 N D l p n with
    | some (x, a) => sr N D l 1 a (vs ++ [x]) 0
    | none => none := by
  intro f
  induction f with
  | zero =>
    intro p vs n hp hf
    cases hd : (coinF N D l p).1
    · rw [s1, sr_late (by omega) hd, sr_late (Nat.le_refl 1) hd]
    · by_cases hv : (coinF N D l p).2.1 = 1
      · have := coinF_one h hd hv
        have := coinF_le (N := N) (D := D) hp
        omega
      · rw [s1, sr_stop hd hv, sr_more h (Nat.le_refl 2) hp hd hv]
        rfl
  | succ f ih =>
    intro p vs n hp hf
    cases hd : (coinF N D l p).1
    · rw [s1, sr_late (by omega) hd, sr_late (Nat.le_refl 1) hd]
    · by_cases hv : (coinF N D l p).2.1 = 1
      · have := coinF_one h hd hv
        have hle := coinF_le (N := N) (D := D) hp
        rw [s1, sr_one h (by omega) hp hd hv, sr_one h (Nat.le_refl 1) hp hd hv, ih _ _ _ hle (by omega)]
        rfl
      · rw [s1, sr_stop hd hv, sr_more h (Nat.le_refl 2) hp hd hv]
        rfl
theorem coinF_drop (N D : Nat) (l : List UInt8) (a q : Nat) : coinF N D (l.drop a) q = coinF N D l (a + q) := by
  unfold coinF; rw [List.drop_drop]
theorem s1_drop {N D : Nat} (h : N < D) {l : List UInt8} {a : Nat} (ha : a ≤ l.length) : ∀ (f q n : Nat), a + q ≤ l.length → l.length - (a + q) ≤ f → s1 N D l (a + q) n = (s1 N D (l.drop a) q n).map (fun x => (x.1, a + x.2)) := by
  intro f
  induction f with
  | zero =>
    intro q n hp hf
    have hc := coinF_drop N D l a q
    cases hd : (coinF N D l (a + q)).1
    · rw [s1, s1, sr_late (Nat.le_refl 1) hd, sr_late (Nat.le_refl 1) (by rw [hc]; exact hd)]
      rfl
    · by_cases hv : (coinF N D l (a + q)).2.1 = 1
      · have := coinF_one h hd hv
        have := coinF_le (N := N) (D := D) hp
        omega
      · rw [s1, s1, sr_stop hd hv, sr_stop (by rw [hc]; exact hd) (by rw [hc]; exact hv), hc]
        simp [Nat.add_assoc]
  | succ f ih =>
    intro q n hp hf
    have hc := coinF_drop N D l a q
    cases hd : (coinF N D l (a + q)).1
    · rw [s1, s1, sr_late (Nat.le_refl 1) hd, sr_late (Nat.le_refl 1) (by rw [hc]; exact hd)]
      rfl
    · by_cases hv : (coinF N D l (a + q)).2.1 = 1
      · have := coinF_one h hd hv
        have hle := coinF_le (N := N) (D := D) hp
        have ih' := ih (q + (coinF N D l (a + q)).2.2) (n + 1) (by omega) (by omega)
        rw [← Nat.add_assoc] at ih'
        rw [s1, s1, sr_one h (Nat.le_refl 1) hp hd hv, sr_one (l := l.drop a) (p := q) h (Nat.le_refl 1) (by rw [List.length_drop]; omega) (by rw [hc]; exact hd) (by rw [hc]; exact hv), hc]
        exact ih'
      · rw [s1, s1, sr_stop hd hv, sr_stop (by rw [hc]; exact hd) (by rw [hc]; exact hv), hc]
        simp [Nat.add_assoc]
end Go.Proofs.YtgphopkifomffaaGreatDoor
namespace Go.Proofs.YtgphopkifomffaaGreatDoor
open Go.RowKit
set_option linter.unusedVariables false
theorem s1_lateC {N D : Nat} {l : List UInt8} {p n : Nat} (hd : (coinF N D l p).1 = false) : s1 N D l p n = none := by
  unfold s1; rw [sr_late (Nat.le_refl 1) hd]
theorem s1_moreC {N D : Nat} (h : N < D) {l : List UInt8} {p n : Nat} (hp : p ≤ l.length) (hd : (coinF N D l p).1 = true) (hv : (coinF N D l p).2.1 = 1) : s1 N D l p n = s1 N D l (p + (coinF N D l p).2.2) (n + 1) := by
  unfold s1; rw [sr_one h (Nat.le_refl 1) hp hd hv]
theorem s1_stopC {N D : Nat} {l : List UInt8} {p n : Nat} (hd : (coinF N D l p).1 = true) (hv : ¬ (coinF N D l p).2.1 = 1) : s1 N D l p n = some (n, p + (coinF N D l p).2.2) := by
  unfold s1; rw [sr_stop hd hv]; rfl
theorem s1_shift {N D : Nat} (h : N < D) {l : List UInt8} : ∀ (f p n : Nat), p ≤ l.length → l.length - p ≤ f → s1 N D l p (n + 1) = (s1 N D l p n).map (fun x => (x.1 + 1, x.2)) := by
  intro f
  induction f with
  | zero =>
    intro p n hp hf
    cases hd : (coinF N D l p).1
    · rw [s1_lateC hd, s1_lateC hd]; rfl
    · by_cases hv : (coinF N D l p).2.1 = 1
      · have := coinF_one h hd hv
        have := coinF_le (N := N) (D := D) hp
        omega
      · rw [s1_stopC hd hv, s1_stopC hd hv]; rfl
  | succ f ih =>
    intro p n hp hf
    cases hd : (coinF N D l p).1
    · rw [s1_lateC hd, s1_lateC hd]; rfl
    · by_cases hv : (coinF N D l p).2.1 = 1
      · have := coinF_one h hd hv
        have hle := coinF_le (N := N) (D := D) hp
        rw [s1_moreC h hp hd hv, s1_moreC h hp hd hv, ih _ (n + 1) hle (by omega)]
      · rw [s1_stopC hd hv, s1_stopC hd hv]; rfl
def oneP (N D i : Nat) (l : List UInt8) : Bool := match s1 N D l 0 0 with | none => false | some (x, _) => decide (x = i)
def twoP (N D i k : Nat) (l : List UInt8) : Bool := match s1 N D l 0 0 with | none => false | some (x, p) => decide (x = i) && oneP N D k (l.drop p)
theorem s1_coin {N D : Nat} (h : N < D) (l : List UInt8) : s1 N D l 0 0 = if (toss N D 0 1 l).1 = true then (if (toss N D 0 1 l).2.1 = 1 then (s1 N D (l.drop (toss N D 0 1 l).2.2) 0 0).map (fun x => (x.1 + 1, (toss N D 0 1 l).2.2 + x.2)) else some (0, (toss N D 0 1 l).2.2)) else none := by
  have e := coinF_eq N D l 0
  rw [List.drop_zero] at e
  cases hd : (toss N D 0 1 l).1
  · rw [s1_lateC (by rw [e]; exact hd)]; rfl
  · rw [if_pos rfl]
    by_cases hv : (toss N D 0 1 l).2.1 = 1
    · have hle := coinF_le (N := N) (D := D) (l := l) (p := 0) (Nat.zero_le _)
      rw [e, Nat.zero_add] at hle
      rw [if_pos hv, s1_moreC h (Nat.zero_le _) (by rw [e]; exact hd) (by rw [e]; exact hv), e, s1_shift h l.length _ _ (by omega) (by omega)]
      have := s1_drop h (l := l) (a := (toss N D 0 1 l).2.2) (by omega) l.length 0 0 (by omega) (by omega)
      rw [Nat.add_zero] at this
      rw [Nat.zero_add, this, Option.map_map]
      rfl
    · rw [if_neg hv, s1_stopC (by rw [e]; exact hd) (by rw [e]; exact hv), e, Nat.zero_add]
theorem oneP_coin {N D : Nat} (h : N < D) (i : Nat) (l : List UInt8) : oneP N D i l = coinP N D 0 1 (match i with | 0 => fun _ => false | i + 1 => oneP N D i) (fun _ => decide (i = 0)) l := by
  unfold coinP
  rw [oneP, s1_coin h]
  cases hd : (toss N D 0 1 l).1
  · rfl
  · rw [if_pos rfl, Bool.true_and]
    by_cases hv : (toss N D 0 1 l).2.1 = 1
    · rw [if_pos hv, if_pos hv]
      cases i with
      | zero =>
        cases s1 N D (l.drop (toss N D 0 1 l).2.2) 0 0 with
        | none => rfl
        | some x => simp
      | succ i =>
        show _ = oneP N D i (l.drop (toss N D 0 1 l).2.2)
        rw [oneP]
        cases s1 N D (l.drop (toss N D 0 1 l).2.2) 0 0 with
        | none => rfl
        | some x => simp
    · rw [if_neg hv, if_neg hv]
      simp only [eq_comm]
theorem twoP_coin {N D : Nat} (h : N < D) (i k : Nat) (l : List UInt8) : twoP N D i k l = coinP N D 0 1 (match i with | 0 => fun _ => false | i + 1 => twoP N D i k) (fun r => decide (i = 0) && oneP N D k r) l := by
  unfold coinP
  rw [twoP, s1_coin h]
  cases hd : (toss N D 0 1 l).1
  · rfl
  · rw [if_pos rfl, Bool.true_and]
    by_cases hv : (toss N D 0 1 l).2.1 = 1
    · rw [if_pos hv, if_pos hv]
      cases i with
      | zero =>
        cases s1 N D (l.drop (toss N D 0 1 l).2.2) 0 0 with
        | none => rfl
        | some x => simp
      | succ i =>
        show _ = twoP N D i k (l.drop (toss N D 0 1 l).2.2)
        rw [twoP]
        cases s1 N D (l.drop (toss N D 0 1 l).2.2) 0 0 with
        | none => rfl
        | some x => simp [List.drop_drop]
    · rw [if_neg hv, if_neg hv]
      simp only [eq_comm]
def opn (N D : Nat) : Nat → Nat → Nat
  | 0 => dlt
  | i + 1 => cvo (chi (oneJ N D)) (opn N D i)
def edn (N D i : Nat) : Nat → Nat := cvo (chi (zeroJ N D)) (opn N D i)
theorem cvo_zero (f : Nat → Nat) (n : Nat) : cvo f (fun _ => 0) n = 0 := by
  unfold cvo
  rw [sumN_congr (d := fun _ => 0) (fun i _ => Nat.mul_zero _)]
  exact sumN_zero _
theorem cvo_swap (f g h : Nat → Nat) (n : Nat) : cvo f (cvo g h) n = cvo g (cvo f h) n := by
  rw [← cvo_assoc, ← cvo_assoc]
  exact cvo_congr (fun s _ => cvo_comm f g s) fun _ _ => rfl
theorem edn_zero (N D m : Nat) : edn N D 0 m = chi (zeroJ N D) m := by
  unfold edn opn
  rw [cvo_comm, cvo_dlt]
theorem edn_succ (N D i m : Nat) : edn N D (i + 1) m = cvo (chi (oneJ N D)) (edn N D i) m := by
  unfold edn
  rw [opn]
  exact cvo_swap _ _ _ _
theorem cw_oneP {N D : Nat} (h : N < D) : ∀ i n, cw n (oneP N D i) = cvo (edn N D i) pw2 n
  | 0, n => by
    rw [cw_congr (Q := coinP N D 0 1 (fun _ => false) (fun _ => true)) (fun l _ => oneP_coin h 0 l), cw_first h, cvo_congr (f' := chi (oneJ N D)) (g' := fun _ => 0) (fun _ _ => rfl) (fun m _ => cw_false m), cvo_zero, Nat.zero_add]
    exact cvo_congr (fun s _ => (edn_zero N D s).symm) fun m _ => cw_true m
  | i + 1, n => by
    rw [cw_congr (Q := coinP N D 0 1 (oneP N D i) (fun _ => false)) (fun l _ => oneP_coin h (i + 1) l), cw_first h, cvo_congr (f := chi (zeroJ N D)) (f' := chi (zeroJ N D)) (g' := fun _ => 0) (fun _ _ => rfl) (fun m _ => cw_false m), cvo_zero, Nat.add_zero]
    rw [cvo_congr (f' := chi (oneJ N D)) (g' := cvo (edn N D i) pw2) (fun _ _ => rfl) (fun m _ => cw_oneP h i m), ← cvo_assoc]
    exact cvo_congr (fun s _ => (edn_succ N D i s).symm) fun _ _ => rfl
theorem cw_twoP {N D : Nat} (h : N < D) (k : Nat) : ∀ i n, cw n (twoP N D i k) = cvo (edn N D i) (cvo (edn N D k) pw2) n
  | 0, n => by
    rw [cw_congr (Q := coinP N D 0 1 (fun _ => false) (oneP N D k)) (fun l _ => by rw [twoP_coin h 0 k l]; rfl), cw_first h, cvo_congr (f' := chi (oneJ N D)) (g' := fun _ => 0) (fun _ _ => rfl) (fun m _ => cw_false m), cvo_zero, Nat.zero_add]
    exact cvo_congr (fun s _ => (edn_zero N D s).symm) fun m _ => cw_oneP h k m
  | i + 1, n => by
    rw [cw_congr (Q := coinP N D 0 1 (twoP N D i k) (fun _ => false)) (fun l _ => by rw [twoP_coin h (i + 1) k l]; rfl), cw_first h, cvo_congr (f := chi (zeroJ N D)) (f' := chi (zeroJ N D)) (g' := fun _ => 0) (fun _ _ => rfl) (fun m _ => cw_false m), cvo_zero, Nat.add_zero]
    rw [cvo_congr (f' := chi (oneJ N D)) (g' := cvo (edn N D i) (cvo (edn N D k) pw2)) (fun _ _ => rfl) (fun m _ => cw_twoP h k i m), ← cvo_assoc]
    exact cvo_congr (fun s _ => (edn_succ N D i s).symm) fun _ _ => rfl
end Go.Proofs.YtgphopkifomffaaGreatDoor
namespace Go.Proofs.YtgphopkifomffaaGreatDoor
open Go.RowKit
set_option linter.unusedVariables false
def valT (N D : Nat) (two : Bool) (l : List UInt8) : Option Int := match s1 N D l 0 0 with
  | none => none
  | some (x, p) => if two = true then (match s1 N D (l.drop p) 0 0 with | none => none | some (y, _) => some ((x : Int) - (y : Int))) else some (x : Int)
def gV (N D : Nat) (two : Bool) (n : Nat) (v : Int) : Nat := cw n fun l => decide (valT N D two l = some v)
def gL (N D : Nat) (two : Bool) (n : Nat) : Nat := cw n fun l => decide (valT N D two l = none)
theorem s1_bd {N D : Nat} (h : N < D) {l : List UInt8} {x p : Nat} (hs : s1 N D l 0 0 = some (x, p)) : p ≤ l.length ∧ x ≤ l.length := by
  have := s1_le h l.length 0 0 x p (Nat.zero_le _) (by omega) hs
  omega
theorem valT_bd {N D : Nat} (h : N < D) {two : Bool} {l : List UInt8} {v : Int} (hv : valT N D two l = some v) : -(l.length : Int) ≤ v ∧ v ≤ l.length := by
  unfold valT at hv
  cases hs : s1 N D l 0 0 with
  | none => rw [hs] at hv; cases hv
  | some xp =>
    obtain ⟨x, p⟩ := xp
    obtain ⟨b1, b2⟩ := s1_bd h hs
    rw [hs] at hv
    cases two
    · simp at hv; omega
    · simp only [if_true] at hv
      cases hs2 : s1 N D (l.drop p) 0 0 with
      | none => rw [hs2] at hv; cases hv
      | some yq =>
        obtain ⟨y, q⟩ := yq
        obtain ⟨b3, b4⟩ := s1_bd h hs2
        rw [hs2] at hv
        rw [List.length_drop] at b4
        simp at hv; omega
theorem cw_none {n : Nat} {P : List UInt8 → Bool} (h : ∀ l, l.length = n → P l = false) : cw n P = 0 := by
  rw [cw_congr (Q := fun _ => false) h, cw_false]
theorem gV_out {N D : Nat} (h : N < D) {two : Bool} {n : Nat} {v : Int} (hv : v < -(n : Int) ∨ (n : Int) < v) : gV N D two n v = 0 := by
  refine cw_none fun l hl => decide_eq_false fun e => ?_
  have := valT_bd h e
  omega
theorem gV_one (N D n : Nat) (v : Int) : gV N D false n v = if 0 ≤ v then cw n (oneP N D v.toNat) else 0 := by
  unfold gV
  split
  · rename_i h0
    refine cw_congr fun l hl => ?_
    unfold valT oneP
    cases s1 N D l 0 0 with
    | none => rfl
    | some xp =>
      obtain ⟨x, p⟩ := xp
      simp only [Bool.false_eq_true, if_false]
      rw [decide_eq_decide, Option.some.injEq]
      omega
  · rename_i h0
    refine cw_none fun l hl => decide_eq_false fun e => ?_
    unfold valT at e
    cases hs : s1 N D l 0 0 with
    | none => rw [hs] at e; cases e
    | some xp => rw [hs] at e; simp at e; omega
theorem countP_pairs {α : Type} (g : α → Option (Nat × Nat)) (Q : Nat → Nat → Bool) (M : Nat) : ∀ L : List α, (∀ x ∈ L, ∀ i k, g x = some (i, k) → i < M ∧ k < M) →
    L.countP (fun x => match g x with | none => false | some p => Q p.1 p.2) = sumN (fun i => sumN (fun k => if Q i k = true then L.countP (fun x => decide (g x = some (i, k))) else 0) M) M
  | [], _ => by
    have h2 : ∀ i, sumN (fun k => if Q i k = true then ([] : List α).countP (fun x => decide (g x = some (i, k))) else 0) M = 0 := fun i => by
      rw [sumN_congr (d := fun _ => 0) (fun k _ => by simp), sumN_zero]
    rw [sumN_congr (d := fun _ => 0) (fun i _ => h2 i), sumN_zero]; rfl
  | x :: r, h => by
    have ih := countP_pairs g Q M r fun y hy => h y (List.mem_cons_of_mem _ hy)
    have e : ∀ i, sumN (fun k => if Q i k = true then (x :: r).countP (fun x => decide (g x = some (i, k))) else 0) M = sumN (fun k => if Q i k = true then r.countP (fun x => decide (g x = some (i, k))) else 0) M + sumN (fun k => if Q i k = true ∧ g x = some (i, k) then 1 else 0) M := fun i => by
      rw [← sumN_add]
      refine sumN_congr fun k _ => ?_
      rw [List.countP_cons]
      by_cases h1 : Q i k = true
      · rw [if_pos h1, if_pos h1]
        congr 1
        simp [h1]
      · rw [if_neg h1, if_neg h1, if_neg (fun hh => h1 hh.1)]
    rw [List.countP_cons, ih, sumN_congr (fun i _ => e i), sumN_add]
    congr 1
    cases hg : g x with
    | none =>
      rw [sumN_congr (d := fun _ => 0) (fun i _ => by rw [sumN_congr (d := fun _ => 0) (fun k _ => by simp), sumN_zero]), sumN_zero]
      simp
    | some p =>
      obtain ⟨a, b⟩ := p
      obtain ⟨ha, hb⟩ := h x (List.mem_cons_self ..) a b hg
      by_cases hq : Q a b = true
      · have e2 : ∀ i, sumN (fun k => if Q i k = true ∧ some (a, b) = some (i, k) then 1 else 0) M = if a = i then 1 else 0 := fun i => by
          by_cases h1 : a = i
          · subst h1
            rw [if_pos rfl, sumN_congr (d := fun k => if b = k then 1 else 0) (fun k _ => by
              by_cases h2 : b = k
              · subst h2; simp [hq]
              · rw [if_neg h2, if_neg (by simp; exact fun _ => h2)])]
            rw [sumN_one, if_pos hb]
          · rw [if_neg h1, sumN_congr (d := fun _ => 0) (fun k _ => if_neg (by simp; exact fun _ hh => absurd hh h1)), sumN_zero]
        rw [sumN_congr (fun i _ => e2 i), sumN_one, if_pos ha]
        simp [hq]
      · rw [sumN_congr (d := fun _ => 0) (fun i _ => by rw [sumN_congr (d := fun _ => 0) (fun k _ => if_neg (by rintro ⟨h1, h2⟩; simp at h2; obtain ⟨rfl, rfl⟩ := h2; exact hq h1)), sumN_zero]), sumN_zero]
        simp [hq]
def twoG (N D : Nat) (l : List UInt8) : Option (Nat × Nat) := match s1 N D l 0 0 with
  | none => none
  | some (x, p) => match s1 N D (l.drop p) 0 0 with | none => none | some (y, _) => some (x, y)
theorem twoG_twoP (N D i k : Nat) (l : List UInt8) : decide (twoG N D l = some (i, k)) = twoP N D i k l := by
  rw [Bool.eq_iff_iff, decide_eq_true_iff]
  unfold twoG twoP oneP
  cases s1 N D l 0 0 with
  | none => simp
  | some xp =>
    obtain ⟨x, p⟩ := xp
    dsimp only
    cases s1 N D (l.drop p) 0 0 with
    | none => simp
    | some yq => simp
theorem gV_two {N D : Nat} (h : N < D) (n : Nat) (v : Int) : gV N D true n v = sumN (fun i => sumN (fun k => if (i : Int) - (k : Int) = v then cw n (twoP N D i k) else 0) (n + 1)) (n + 1) := by
  have h1 := countP_pairs (twoG N D) (fun i k => decide ((i : Int) - (k : Int) = v)) (n + 1) (allW n) (fun l hl i k hg => by
    have hn := allW_len hl
    unfold twoG at hg
    cases hs : s1 N D l 0 0 with
    | none => rw [hs] at hg; cases hg
    | some xp =>
      obtain ⟨x, p⟩ := xp
      obtain ⟨b1, b2⟩ := s1_bd h hs
      rw [hs] at hg
      dsimp only at hg
      cases hs2 : s1 N D (l.drop p) 0 0 with
      | none => rw [hs2] at hg; cases hg
      | some yq =>
        obtain ⟨y, q⟩ := yq
        obtain ⟨b3, b4⟩ := s1_bd h hs2
        rw [hs2] at hg
        rw [List.length_drop] at b4
        simp at hg
        omega)
  unfold gV
  rw [← cw_all]
  refine Eq.trans ?_ (h1.trans ?_)
  · refine List.countP_congr fun l hl => ?_
    unfold valT twoG
    cases s1 N D l 0 0 with
    | none => simp
    | some xp =>
      obtain ⟨x, p⟩ := xp
      simp only [if_true]
      cases s1 N D (l.drop p) 0 0 with
      | none => simp
      | some yq => simp
  · refine sumN_congr fun i _ => sumN_congr fun k _ => ?_
    simp only [decide_eq_true_eq]
    split
    · rw [cw_all]
      exact cw_congr fun l _ => twoG_twoP N D i k l
    · rfl
theorem gV_sum {N D : Nat} (h : N < D) (two : Bool) (n : Nat) : sumN (fun j => gV N D two n ((j : Int) - (n : Int))) (2 * n + 1) + gL N D two n = 2 ^ n := by
  have h1 := count_all (fun l => ((valT N D two l).isSome, ((valT N D two l).getD 0 + (n : Int)).toNat)) (2 * n + 1) (allW n) (fun l hl hd => by
    have hn := allW_len hl
    dsimp only at hd ⊢
    obtain ⟨v, hv⟩ := Option.isSome_iff_exists.1 hd
    have := valT_bd h hv
    rw [hv, Option.getD_some]
    omega)
  rw [allW_length] at h1
  rw [← h1]
  congr 1
  · refine sumN_congr fun j hj => ?_
    unfold gV
    rw [← cw_all]
    refine List.countP_congr fun l hl => ?_
    have hn := allW_len hl
    cases hv : valT N D two l with
    | none => simp
    | some v =>
      have := valT_bd h hv
      simp
      omega
  · unfold gL
    rw [← cw_all]
    refine List.countP_congr fun l hl => ?_
    cases valT N D two l <;> simp
theorem gV_le {N D : Nat} (h : N < D) (two : Bool) (n : Nat) (v : Int) : gV N D two n v ≤ 2 ^ n := by
  by_cases hv : v < -(n : Int) ∨ (n : Int) < v
  · rw [gV_out h hv]; exact Nat.zero_le _
  · have h1 := gV_sum h two n
    have h2 := sumN_at (f := fun j => gV N D two n ((j : Int) - (n : Int))) (i := (v + n).toNat) (n := 2 * n + 1) (by omega)
    rw [show ((v + (n : Int)).toNat : Int) - (n : Int) = v by omega] at h2
    omega
end Go.Proofs.YtgphopkifomffaaGreatDoor
namespace Go.Proofs.YtgphopkifomffaaGreatDoor
open Go.RowKit
open Go.Lib (decDigits nDigits)
def numL (l : List Nat) : List Value := l.map fun n => .string (numB n)
@[simp] theorem numL_length (l : List Nat) : (numL l).length = l.length := by simp [numL]
theorem numL_get {l : List Nat} {i : Nat} (h : i < l.length) : (numL l)[i]? = some (.string (numB (l.getD i 0))) := by
  simp [numL, List.getD_eq_getElem?_getD, List.getElem?_eq_getElem h]
theorem numL_set (l : List Nat) (i x : Nat) : (numL l).set i (.string (numB x)) = numL (l.set i x) := by simp [numL, List.map_set]
def addAt (c : Bool) (k x : Nat) (l : List Nat) : List Nat := if c = true then l.set k (l.getD k 0 + x) else l
theorem addAt_length (c : Bool) (k x : Nat) (l : List Nat) : (addAt c k x l).length = l.length := by unfold addAt; split <;> simp
theorem addAt_false (k x : Nat) (l : List Nat) : addAt false k x l = l := rfl
theorem addAt_true (k x : Nat) (l : List Nat) : addAt true k x l = l.set k (l.getD k 0 + x) := rfl
theorem addAt_get (c : Bool) {k x : Nat} {l : List Nat} (hk : k < l.length) (i : Nat) : (addAt c k x l).getD i 0 = l.getD i 0 + (if c = true ∧ i = k then x else 0) := by
  cases c
  · rw [addAt_false]; simp
  · rw [addAt_true, List.getD_eq_getElem?_getD, List.getD_eq_getElem?_getD, List.getElem?_set]
    by_cases h : k = i
    · subst h; simp [hk, List.getD_eq_getElem?_getD]
    · simp [h, show ¬ i = k from fun e => h e.symm]
theorem two_pow_digits {x i : Nat} (h : x ≤ 2 ^ i) (hi : i ≤ 3000) : nDigits x ≤ 4000 := by
  refine Nat.le_trans (nDigits_mono h) ?_
  have h1 : 2 ^ i < 10 ^ (i + 1) := by
    have h2 : 2 ^ i ≤ 10 ^ i := Nat.pow_le_pow_left (by omega) i
    have h3 : 10 ^ i < 10 ^ (i + 1) := Nat.pow_lt_pow_right (by omega) (by omega)
    omega
  exact Nat.le_trans (nDigits_le (Nat.succ_pos i) h1) (by omega)
end Go.Proofs.YtgphopkifomffaaGreatDoor
namespace Go.Proofs.YtgphopkifomffaaGreatDoor
open Go.RowKit
set_option linter.unusedVariables false
set_option linter.unusedSimpArgs false
def aIn (c : Nat → Bool) (x i : Nat) : Nat → List Nat → List Nat
  | 0, l => l
  | j + 1, l => addAt (c j) (i + j) x (aIn c x i j l)
def aOut (c : Nat → Bool) (O : List Nat) (n : Nat) : Nat → List Nat
  | 0 => List.replicate (n + 1) 0
  | i + 1 => aIn c (O.getD i 0) i (n + 1 - i) (aOut c O n i)
theorem aIn_length (c : Nat → Bool) (x i : Nat) : ∀ (j : Nat) (l : List Nat), (aIn c x i j l).length = l.length
  | 0, l => rfl
  | j + 1, l => by rw [aIn, addAt_length, aIn_length c x i j l]
theorem aOut_length (c : Nat → Bool) (O : List Nat) (n : Nat) : ∀ i, (aOut c O n i).length = n + 1
  | 0 => by simp [aOut]
  | i + 1 => by rw [aOut, aIn_length, aOut_length c O n i]
theorem addAt_zero (b : Bool) (k : Nat) (l : List Nat) : addAt b k 0 l = l := by
  unfold addAt
  split
  · rw [Nat.add_zero]
    apply List.ext_getElem?
    intro m
    rw [List.getElem?_set]
    split
    · rename_i h
      subst h
      split
      · rename_i hk
        rw [List.getD_eq_getElem?_getD, List.getElem?_eq_getElem hk]; rfl
      · rename_i hk
        rw [List.getElem?_eq_none (by omega)]
    · rfl
  · rfl
theorem aIn_zero (c : Nat → Bool) (i : Nat) : ∀ (j : Nat) (l : List Nat), aIn c 0 i j l = l
  | 0, l => rfl
  | j + 1, l => by rw [aIn, addAt_zero, aIn_zero c i j l]
theorem aIn_get {c : Nat → Bool} {x i n : Nat} {l : List Nat} (hl : l.length = n + 1) : ∀ {j : Nat}, i + j ≤ n + 1 → ∀ k, (aIn c x i j l).getD k 0 = l.getD k 0 + (if i ≤ k ∧ k < i + j ∧ c (k - i) = true then x else 0)
  | 0, _, k => by rw [aIn, if_neg (by omega)]; rfl
  | j + 1, h, k => by
    rw [aIn, addAt_get _ (by rw [aIn_length]; omega), aIn_get hl (by omega) k, Nat.add_assoc]
    congr 1
    by_cases hk : k = i + j
    · subst hk
      rw [if_neg (by omega), show i + j - i = j by omega, Nat.zero_add]
      by_cases hc : c j = true
      · rw [if_pos ⟨hc, rfl⟩, if_pos ⟨by omega, by omega, hc⟩]
      · rw [if_neg (fun h => hc h.1), if_neg (fun h => hc h.2.2)]
    · have e0 : (if c j = true ∧ k = i + j then x else 0) = 0 := if_neg (fun h => hk h.2)
      rw [e0, Nat.add_zero]
      by_cases hc : i ≤ k ∧ k < i + j ∧ c (k - i) = true
      · rw [if_pos hc, if_pos ⟨hc.1, by omega, hc.2.2⟩]
      · rw [if_neg hc, if_neg (fun h => hc ⟨h.1, by omega, h.2.2⟩)]
theorem aOut_get {c : Nat → Bool} {O : List Nat} {n : Nat} : ∀ {i : Nat}, i ≤ n + 1 → ∀ k, k ≤ n → (aOut c O n i).getD k 0 = sumN (fun i' => if i' ≤ k ∧ c (k - i') = true then O.getD i' 0 else 0) i
  | 0, _, k, hk => by simp [aOut, sumN, List.getD_eq_getElem?_getD, List.getElem?_replicate, show k < n + 1 by omega]
  | i + 1, h, k, hk => by
    rw [aOut, aIn_get (aOut_length c O n i) (by omega), aOut_get (by omega) k hk, sumN]
    congr 1
    by_cases hc : i ≤ k ∧ c (k - i) = true
    · rw [if_pos hc, if_pos ⟨hc.1, by omega, hc.2⟩]
    · rw [if_neg hc, if_neg (fun h => hc ⟨h.1, h.2.2⟩)]
def fnL (f : Nat → Nat) (n : Nat) : List Nat := (List.range (n + 1)).map f
theorem fnL_length (f : Nat → Nat) (n : Nat) : (fnL f n).length = n + 1 := by simp [fnL]
theorem fnL_get {f : Nat → Nat} {n k : Nat} (h : k ≤ n) : (fnL f n).getD k 0 = f k := by simp [fnL, List.getD_eq_getElem?_getD, show k < n + 1 by omega]
theorem fnL_ext {l : List Nat} {f : Nat → Nat} {n : Nat} (hl : l.length = n + 1) (h : ∀ k, k ≤ n → l.getD k 0 = f k) : l = fnL f n := by
  apply List.ext_getElem?
  intro k
  by_cases hk : k ≤ n
  · have h1 := h k hk
    rw [List.getD_eq_getElem?_getD, List.getElem?_eq_getElem (by omega)] at h1
    rw [List.getElem?_eq_getElem (by omega)]
    simp only [Option.getD_some] at h1
    rw [h1]
    simp [fnL, show k < n + 1 by omega]
  · rw [List.getElem?_eq_none (by omega), List.getElem?_eq_none (by rw [fnL_length]; omega)]
theorem aOut_fn {c : Nat → Bool} {f : Nat → Nat} {n : Nat} : aOut c (fnL f n) n (n + 1) = fnL (cvo (chi c) f) n := by
  refine fnL_ext (aOut_length _ _ _ _) fun k hk => ?_
  rw [aOut_get (Nat.le_refl _) k hk, cvo_comm]
  unfold cvo
  have e : ∀ m, sumN (fun i' => if i' ≤ k ∧ c (k - i') = true then (fnL f n).getD i' 0 else 0) (k + 1 + m) = sumN (fun i' => if i' ≤ k ∧ c (k - i') = true then (fnL f n).getD i' 0 else 0) (k + 1) := fun m => by
    induction m with
    | zero => rfl
    | succ m ih => rw [← Nat.add_assoc, sumN, ih, if_neg (by omega)]; rfl
  rw [show n + 1 = k + 1 + (n - k) by omega, e]
  refine sumN_congr fun i hi => ?_
  rw [fnL_get (by omega)]
  unfold chi
  by_cases hc : c (k - i) = true
  · rw [if_pos ⟨by omega, hc⟩, if_pos hc, Nat.mul_one]
  · rw [if_neg (fun h => hc h.2), if_neg hc, Nat.mul_zero]
def opnL (N D n i : Nat) : List Nat := fnL (opn N D i) n
def ednL (N D n i : Nat) : List Nat := fnL (edn N D i) n
theorem opnL_zero (N D n : Nat) : (List.replicate (n + 1) 0).set 0 1 = opnL N D n 0 := by
  refine fnL_ext (by simp) fun k hk => ?_
  rw [List.getD_eq_getElem?_getD, List.getElem?_set]
  unfold opn dlt
  by_cases h : k = 0
  · subst h; simp
  · rw [if_neg (fun e => h e.symm), if_neg h]
    simp [List.getElem?_replicate, show k < n + 1 by omega]
theorem opnL_succ (N D n i : Nat) : aOut (oneJ N D) (opnL N D n i) n (n + 1) = opnL N D n (i + 1) := aOut_fn
theorem ednL_is (N D n i : Nat) : aOut (zeroJ N D) (opnL N D n i) n (n + 1) = ednL N D n i := aOut_fn
theorem cvo_bd {c : Nat → Bool} {f : Nat → Nat} {B n : Nat} (h : ∀ s, s ≤ n → f s ≤ B) : ∀ k, k ≤ n → cvo (chi c) f k ≤ (n + 1) * B := fun k hk => by
  unfold cvo
  have h1 : sumN (fun s => chi c s * f (k - s)) (k + 1) ≤ sumN (fun _ => B) (k + 1) := sumN_le fun s hs => by
    have := chi_le c s
    have := h (k - s) (by omega)
    calc chi c s * f (k - s) ≤ 1 * f (k - s) := Nat.mul_le_mul_right _ (by assumption)
      _ ≤ B := by omega
  have h2 : ∀ m, sumN (fun _ => B) m = m * B := fun m => by
    induction m with
    | zero => simp [sumN]
    | succ m ih => rw [sumN, ih, Nat.succ_mul]
  rw [h2] at h1
  exact Nat.le_trans h1 (Nat.mul_le_mul_right _ (by omega))
theorem opn_bd {N D n : Nat} (hn : n ≤ 32) : ∀ i s, s ≤ n → opn N D i s ≤ 2 ^ (6 * i)
  | 0, s, hs => by unfold opn dlt; split <;> simp
  | i + 1, s, hs => by
    have h := cvo_bd (c := oneJ N D) (f := opn N D i) (B := 2 ^ (6 * i)) (n := n) (fun s hs => opn_bd hn i s hs) s hs
    rw [opn]
    refine Nat.le_trans h ?_
    rw [show 6 * (i + 1) = 6 + 6 * i by omega, Nat.pow_add]
    exact Nat.mul_le_mul_right _ (by omega)
theorem edn_bd {N D n : Nat} (hn : n ≤ 32) (i s : Nat) (hs : s ≤ n) : edn N D i s ≤ 2 ^ (6 * (i + 1)) := by
  have h := cvo_bd (c := zeroJ N D) (f := opn N D i) (B := 2 ^ (6 * i)) (n := n) (fun s hs => opn_bd hn i s hs) s hs
  unfold edn
  refine Nat.le_trans h ?_
  rw [show 6 * (i + 1) = 6 + 6 * i by omega, Nat.pow_add]
  exact Nat.mul_le_mul_right _ (by omega)
theorem aIn_le {c : Nat → Bool} {O : List Nat} {n i j k : Nat} (hi : i ≤ n) (hij : i + j ≤ n + 1) (hk : k ≤ n) : (aIn c (O.getD i 0) i j (aOut c O n i)).getD k 0 ≤ (aOut c O n (n + 1)).getD k 0 := by
  rw [aIn_get (aOut_length _ _ _ _) hij, aOut_get (by omega) k hk, aOut_get (Nat.le_refl _) k hk]
  refine Nat.le_trans ?_ (sumN_mono (show i + 1 ≤ n + 1 by omega))
  rw [sumN]
  refine Nat.add_le_add_left ?_ _
  by_cases hc : i ≤ k ∧ c (k - i) = true
  · rw [if_pos hc]; split <;> omega
  · rw [if_neg hc, if_neg (fun h => hc ⟨h.1, h.2.2⟩)]; exact Nat.le_refl _
end Go.Proofs.YtgphopkifomffaaGreatDoor
namespace Go.Proofs.YtgphopkifomffaaGreatDoor
open Go.RowKit
set_option linter.unusedVariables false
set_option linter.unusedSimpArgs false
def addM (c : Int → Nat) (v : Int) (x : Nat) : Int → Nat := fun w => if w = v then c w + x else c w
theorem sumN_swap (f : Nat → Nat → Nat) (m : Nat) : ∀ n, sumN (fun i => sumN (fun k => f i k) m) n = sumN (fun k => sumN (fun i => f i k) n) m
  | 0 => by simp only [sumN]; rw [sumN_zero]
  | n + 1 => by rw [sumN, sumN_swap f m n, ← sumN_add]; rfl
theorem sumN_if (c : Prop) [Decidable c] (f : Nat → Nat) (n : Nat) : sumN (fun i => if c then f i else 0) n = if c then sumN f n else 0 := by
  split
  · rfl
  · exact sumN_zero n
def c1 (N D n i s : Nat) (v : Int) : Nat := sumN (fun i' => if (i' : Int) = v then sumN (fun s' => edn N D i' s' * 2 ^ (n - s')) (n + 1) else 0) i + (if (i : Int) = v then sumN (fun s' => edn N D i s' * 2 ^ (n - s')) s else 0)
theorem c1_zero (N D n : Nat) : c1 N D n 0 0 = fun _ => 0 := by funext v; simp [c1, sumN]
theorem c1_step (N D n i s : Nat) : c1 N D n i (s + 1) = addM (c1 N D n i s) (i : Int) (edn N D i s * 2 ^ (n - s)) := by
  funext v
  unfold addM c1
  by_cases h : (i : Int) = v
  · subst h
    rw [if_pos rfl, if_pos rfl, if_pos rfl, sumN]; omega
  · rw [if_neg h, if_neg h, if_neg (fun e => h e.symm)]
theorem c1_row (N D n i : Nat) : c1 N D n i (n + 1) = c1 N D n (i + 1) 0 := by
  funext v
  unfold c1
  rw [sumN]
  simp [sumN]
theorem c1_skip {N D n i s : Nat} (h : edn N D i s = 0) : c1 N D n i (s + 1) = c1 N D n i s := by
  rw [c1_step, h]
  funext v
  unfold addM
  split <;> simp
theorem c1_end {N D : Nat} (h : N < D) (n : Nat) (v : Int) : c1 N D n (n + 1) 0 v = gV N D false n v := by
  rw [gV_one]
  unfold c1
  have e : ∀ i, sumN (fun s' => edn N D i s' * 2 ^ (n - s')) (n + 1) = cw n (oneP N D i) := fun i => (cw_oneP h i n).symm
  simp only [e]
  rw [show (if ((n + 1 : Nat) : Int) = v then sumN (fun s' => edn N D (n + 1) s' * 2 ^ (n - s')) 0 else 0) = 0 by split <;> rfl, Nat.add_zero]
  by_cases h0 : 0 ≤ v
  · rw [if_pos h0]
    rw [sumN_congr (d := fun i => if v.toNat = i then cw n (oneP N D v.toNat) else 0) (fun i _ => by
      by_cases hi : (i : Int) = v
      · rw [if_pos hi, if_pos (by omega), show v.toNat = i by omega]
      · rw [if_neg hi, if_neg (by omega)])]
    have e2 : ∀ m, sumN (fun i => if v.toNat = i then cw n (oneP N D v.toNat) else 0) m = if v.toNat < m then cw n (oneP N D v.toNat) else 0 := fun m => by
      induction m with
      | zero => simp [sumN]
      | succ m ih =>
        rw [sumN, ih]
        by_cases h1 : v.toNat < m
        · rw [if_pos h1, if_neg (by omega), if_pos (by omega)]; rfl
        · rw [if_neg h1, Nat.zero_add]
          by_cases h2 : v.toNat = m
          · rw [if_pos h2, if_pos (by omega)]
          · rw [if_neg h2, if_neg (by omega)]
    rw [e2]
    split
    · rfl
    · rename_i hn
      refine (cw_none fun l hl => ?_).symm
      unfold oneP
      cases hs : s1 N D l 0 0 with
      | none => rfl
      | some xp =>
        obtain ⟨x, p⟩ := xp
        obtain ⟨b1, b2⟩ := s1_bd h hs
        exact decide_eq_false (by omega)
  · rw [if_neg h0]
    rw [sumN_congr (d := fun _ => 0) (fun i _ => if_neg (by omega)), sumN_zero]
theorem c1_le {N D n i s : Nat} (h : N < D) (hi : i ≤ n) (hs : s ≤ n + 1) (v : Int) : c1 N D n i s v ≤ gV N D false n v := by
  rw [← c1_end h]
  have h1 : c1 N D n i s v ≤ c1 N D n (i + 1) 0 v := by
    rw [← c1_row]
    unfold c1
    refine Nat.add_le_add_left ?_ _
    split
    · exact sumN_mono hs
    · exact Nat.le_refl _
  refine Nat.le_trans h1 ?_
  unfold c1
  have e : ∀ i, (if ((i : Nat) : Int) = v then sumN (fun s' => edn N D i s' * 2 ^ (n - s')) 0 else 0) = 0 := fun i => by split <;> rfl
  rw [e, e]
  exact sumN_mono (by omega)
def p2 (N D n i s k u : Nat) (v : Int) : Nat := if (i : Int) - (k : Int) = v then sumN (fun u' => edn N D i s * edn N D k u' * 2 ^ (n - s - u')) u else 0
def q2 (N D n i s k : Nat) (v : Int) : Nat := sumN (fun k' => p2 N D n i s k' (n - s + 1) v) k
def r2 (N D n i s : Nat) (v : Int) : Nat := sumN (fun s' => q2 N D n i s' (n + 1) v) s
def t2 (N D n i : Nat) (v : Int) : Nat := sumN (fun i' => r2 N D n i' (n + 1) v) i
def c2 (N D n i s k u : Nat) (v : Int) : Nat := t2 N D n i v + r2 N D n i s v + q2 N D n i s k v + p2 N D n i s k u v
theorem p2_zero (N D n i s k : Nat) (v : Int) : p2 N D n i s k 0 v = 0 := by unfold p2; split <;> rfl
theorem c2_zero (N D n : Nat) : c2 N D n 0 0 0 0 = fun _ => 0 := by funext v; simp [c2, t2, r2, q2, p2_zero, sumN]
theorem c2_u (N D n i s k u : Nat) : c2 N D n i s k (u + 1) = addM (c2 N D n i s k u) ((i : Int) - (k : Int)) (edn N D i s * edn N D k u * 2 ^ (n - s - u)) := by
  funext v
  unfold addM c2 p2
  by_cases h : (i : Int) - (k : Int) = v
  · subst h
    rw [if_pos rfl, if_pos rfl, if_pos rfl, sumN]; omega
  · rw [if_neg h, if_neg h, if_neg (fun e => h e.symm)]
theorem c2_skip {N D n i s k u : Nat} (h : edn N D k u = 0) : c2 N D n i s k (u + 1) = c2 N D n i s k u := by
  rw [c2_u, h]
  funext v
  unfold addM
  split <;> simp
theorem c2_k (N D n i s k : Nat) : c2 N D n i s k (n - s + 1) = c2 N D n i s (k + 1) 0 := by
  funext v
  unfold c2
  rw [p2_zero]
  unfold q2
  rw [sumN]; omega
theorem c2_s (N D n i s : Nat) : c2 N D n i s (n + 1) 0 = c2 N D n i (s + 1) 0 0 := by
  funext v
  unfold c2
  rw [p2_zero, p2_zero]
  unfold r2
  rw [sumN]
  simp only [q2, sumN]; omega
theorem c2_none {N D n i s : Nat} (h : edn N D i s = 0) : c2 N D n i (s + 1) 0 0 = c2 N D n i s 0 0 := by
  rw [← c2_s]
  funext v
  unfold c2
  rw [p2_zero, p2_zero]
  have e : q2 N D n i s (n + 1) v = 0 := by
    unfold q2
    rw [sumN_congr (d := fun _ => 0) (fun k _ => by
      unfold p2
      split
      · rw [sumN_congr (d := fun _ => 0) (fun u _ => by rw [h, Nat.zero_mul, Nat.zero_mul]), sumN_zero]
      · rfl), sumN_zero]
  rw [e]
  simp [q2, sumN]
theorem c2_i (N D n i : Nat) : c2 N D n i (n + 1) 0 0 = c2 N D n (i + 1) 0 0 0 := by
  funext v
  unfold c2
  rw [p2_zero, p2_zero]
  unfold t2
  rw [sumN]
  simp only [q2, r2, sumN]
theorem c2_end {N D : Nat} (h : N < D) (n : Nat) (v : Int) : c2 N D n (n + 1) 0 0 0 v = gV N D true n v := by
  rw [gV_two h]
  unfold c2
  rw [p2_zero]
  simp only [q2, sumN, r2, Nat.add_zero]
  unfold t2 r2 q2
  refine sumN_congr fun i _ => ?_
  rw [sumN_swap (fun s k => p2 N D n i s k (n - s + 1) v)]
  refine sumN_congr fun k _ => ?_
  unfold p2
  rw [sumN_if]
  by_cases hv : (i : Int) - (k : Int) = v
  · rw [if_pos hv, if_pos hv, cw_twoP h k i n]
    unfold cvo
    refine sumN_congr fun s _ => ?_
    rw [← sumN_mul]
    refine sumN_congr fun u _ => ?_
    unfold pw2
    rw [Nat.mul_assoc]
  · rw [if_neg hv, if_neg hv]
theorem c2_le {N D n i s k u : Nat} (h : N < D) (hi : i ≤ n) (hs : s ≤ n) (hk : k ≤ n) (hu : u ≤ n - s + 1) (v : Int) : c2 N D n i s k u v ≤ gV N D true n v := by
  rw [← c2_end h]
  have a1 : p2 N D n i s k u v ≤ p2 N D n i s k (n - s + 1) v := by
    unfold p2
    split
    · exact sumN_mono hu
    · exact Nat.le_refl _
  have a2 : q2 N D n i s k v + p2 N D n i s k (n - s + 1) v ≤ q2 N D n i s (n + 1) v := by
    have : q2 N D n i s (k + 1) v ≤ q2 N D n i s (n + 1) v := sumN_mono (by omega)
    unfold q2 at *
    rw [sumN] at this; omega
  have a3 : r2 N D n i s v + q2 N D n i s (n + 1) v ≤ r2 N D n i (n + 1) v := by
    have : r2 N D n i (s + 1) v ≤ r2 N D n i (n + 1) v := sumN_mono (by omega)
    unfold r2 at *
    rw [sumN] at this; omega
  have a4 : t2 N D n i v + r2 N D n i (n + 1) v ≤ t2 N D n (n + 1) v := by
    have : t2 N D n (i + 1) v ≤ t2 N D n (n + 1) v := sumN_mono (by omega)
    unfold t2 at *
    rw [sumN] at this; omega
  unfold c2
  omega
end Go.Proofs.YtgphopkifomffaaGreatDoor
namespace Go.Proofs.YtgphopkifomffaaGreatDoor
open Go.RowKit Go.Maps
open Go.Lib (decDigits nDigits)
set_option linter.unusedVariables false
def keyL (p : ByteArray × ByteArray) : List UInt8 := p.1.data.toList
def sortM (L : List (ByteArray × ByteArray)) : List (ByteArray × ByteArray) := L.mergeSort (fun p q => leB (keyL p) (keyL q))
theorem sortM_mem {L : List (ByteArray × ByteArray)} {p : ByteArray × ByteArray} : p ∈ sortM L ↔ p ∈ L := List.mem_mergeSort
theorem sortM_length (L : List (ByteArray × ByteArray)) : (sortM L).length = L.length := List.length_mergeSort L
theorem leB_trans : ∀ a b c : List UInt8, leB a b = true → leB b c = true → leB a c = true := fun a b c h1 h2 => by simp only [leB, decide_eq_true_eq] at *; exact List.le_trans h1 h2
theorem leB_total : ∀ a b : List UInt8, (leB a b || leB b a) = true := fun a b => by simp only [leB, Bool.or_eq_true, decide_eq_true_eq]; exact List.le_total a b
theorem sortM_sorted (L : List (ByteArray × ByteArray)) : (sortM L).Pairwise (fun p q => leB (keyL p) (keyL q) = true) :=
  List.pairwise_mergeSort (le := fun p q => leB (keyL p) (keyL q)) (fun a b c => leB_trans (keyL a) (keyL b) (keyL c)) (fun a b => leB_total (keyL a) (keyL b)) L
def massC (L : List (ByteArray × ByteArray)) : List Value := L.flatMap (fun p => [.string p.1, .string p.2])
theorem massC_length (L : List (ByteArray × ByteArray)) : (massC L).length = L.length * 2 := by
  unfold massC
  induction L with
  | nil => rfl
  | cons p r ih => rw [List.flatMap_cons, List.length_append, ih, List.length_cons]; simp; omega
theorem massC_append (L M : List (ByteArray × ByteArray)) : massC (L ++ M) = massC L ++ massC M := by simp [massC]
theorem massC_get {L : List (ByteArray × ByteArray)} : ∀ {i : Nat} {p : ByteArray × ByteArray}, L[i]? = some p → (massC L)[2 * i]? = some (.string p.1) ∧ (massC L)[2 * i + 1]? = some (.string p.2) := by
  induction L with
  | nil => intro i p h; simp at h
  | cons q r ih =>
    intro i p h
    cases i with
    | zero => simp at h; subst h; exact ⟨rfl, rfl⟩
    | succ i =>
      have h' : r[i]? = some p := by simpa using h
      obtain ⟨h1, h2⟩ := ih h'
      have e : massC (q :: r) = [.string q.1, .string q.2] ++ massC r := rfl
      rw [e, show 2 * (i + 1) = 2 + 2 * i by omega]
      constructor
      · rw [List.getElem?_append_right (by simp)]; simpa using h1
      · rw [List.getElem?_append_right (by simp <;> omega)]
        simp only [List.length_cons, List.length_nil]
        rw [show 2 + 2 * i + 1 - (0 + 1 + 1) = 2 * i + 1 by omega]
        exact h2
theorem MRow.of_owns {w : World} {base n : Nat} {e : TypeId} {v : Value} {L : List (ByteArray × ByteArray)} (h : w.ownsRow base e 2 v n (massC L)) : MRow w v L := by
  have hn : n = L.length := by have := h.1; rw [massC_length] at this; omega
  subst hn
  refine ⟨?_⟩
  have hh := h
  rcases h.2 with ⟨rfl, h0⟩ | ⟨g, cap, cur, rfl, hb, hg, h1, h2, h3, h4⟩
  · exact ⟨none, 0, by rw [h0], by omega, by omega, fun i x hx => by have := (List.getElem?_eq_some_iff.1 hx).1; omega⟩
  · refine ⟨some ⟨g, 0, none⟩, cap, rfl, h1, by unfold maxLen at h2; exact h2, fun i x hx => ⟨g, 0, rfl, (Array.getElem?_eq_some_iff.1 hg).1, ?_⟩⟩
    obtain ⟨m1, m2⟩ := massC_get hx
    have k1 := hh.cells rfl _ _ m1
    have k2 := hh.cells rfl _ _ m2
    rw [Addr.add_lit] at k1 k2
    rw [← Nat.add_assoc] at k2
    exact ⟨k1, k2⟩
theorem numB_late (i : Nat) : (numB i).data.toList ≠ lateB.data.toList := by
  intro e
  have h : (108 : UInt8) ∈ decDigits i := by
    rw [← numB_list, e]; decide
  exact absurd (allDig_dec i 108 h) (by decide)
end Go.Proofs.YtgphopkifomffaaGreatDoor
namespace Go.Proofs.YtgphopkifomffaaGreatDoor
open Go.RowKit Go.Shelf Go.Maps
open Go.Lib (decDigits nDigits)
set_option linter.unusedVariables false
set_option linter.unusedSimpArgs false
theorem info_mass : (Tryz.prog.info? 40).map (fun i => (i.zero, i.size, i.bytes)) = some (some (.agg #[.string ⟨#[]⟩, .string ⟨#[]⟩]), 2, 32) := by kernel_rfl
theorem zero_num (w : World) : (zeroValue 22).run Tryz.prog w = .ok (.string ⟨#[]⟩) w := by kernel_rfl
end Go.Proofs.YtgphopkifomffaaGreatDoor
namespace Go.Proofs.YtgphopkifomffaaGreatDoor
open Go.RowKit Go.Shelf Go.Maps
open Go.Lib (decDigits nDigits)
set_option linter.unusedVariables false
set_option linter.unusedSimpArgs false
theorem shB_zero (t : Nat) : shB 0 t = ⟨#[48]⟩ := by
  have e : qmk false 0 t = 0 := by unfold qmk sgn; simp
  have h1 : ¬ ovQ 0 := by
    have : nDigits 0 ≤ 4000 := by rw [nDigits_zero]; omega
    have : nDigits 1 ≤ 4000 := by rw [nDigits_one]; omega
    unfold ovQ
    rw [show (0 : Rat).num.natAbs = 0 from rfl, show (0 : Rat).den = 1 from rfl]
    omega
  unfold shB
  rw [e]
  unfold outB
  rw [if_neg h1]
  apply ba_ext
  rw [txQ, txB_list, show (0 : Rat).num.natAbs = 0 from rfl, show (0 : Rat).den = 1 from rfl, show decide ((0 : Rat).num < 0) = false from rfl, dec_zero]
  rfl
end Go.Proofs.YtgphopkifomffaaGreatDoor
namespace Go.Proofs.YtgphopkifomffaaGreatDoor
theorem sgn_mulN (m : Bool) (n d : Nat) : sgn m (n * d) = sgn m n * (d : Int) := by cases m <;> simp [sgn, Int.neg_mul]
theorem q_add (p q : Rat) : p + q = mkRat (sgn (decide (p.num < 0)) (p.num.natAbs * q.den) + sgn (decide (q.num < 0)) (q.num.natAbs * p.den)) (p.den * q.den) := by
  rw [sgn_mulN, sgn_mulN, sgn_of, sgn_of, Rat.add_def', Int.mul_comm q.num]
  try rw [Int.mul_comm q.num]
theorem sgn_same (m : Bool) (x y : Nat) : sgn m x + sgn m y = sgn m (x + y) := by cases m <;> simp [sgn] <;> omega
theorem sgn_less {m1 m2 : Bool} (h : m1 ≠ m2) {x y : Nat} (hl : x < y) : sgn m1 x + sgn m2 y = sgn m2 (y - x) := by
  cases m1 <;> cases m2 <;> simp [sgn] at * <;> omega
theorem sgn_more {m1 m2 : Bool} (h : m1 ≠ m2) {x y : Nat} (hl : y ≤ x) : sgn m1 x + sgn m2 y = sgn m1 (x - y) := by
  cases m1 <;> cases m2 <;> simp [sgn] at * <;> omega
end Go.Proofs.YtgphopkifomffaaGreatDoor
namespace Go.Proofs.YtgphopkifomffaaGreatDoor
open Go.RowKit
open Go.Lib (decDigits nDigits)
set_option linter.unusedVariables false
theorem sgn_abs_le (m1 m2 : Bool) (x y : Nat) : (sgn m1 x + sgn m2 y).natAbs ≤ x + y := by
  cases m1 <;> cases m2 <;> simp [sgn] <;> omega
structure Dig (K : Nat) (q : Rat) : Prop where
  n : q.num.natAbs < 10 ^ K
  d : q.den < 10 ^ K
theorem Dig.fits {K : Nat} {q : Rat} (h : Dig K q) (h0 : 0 < K) (hk : K ≤ 4000) : ¬ ovQ q := by
  unfold ovQ
  have h1 := nDigits_le h0 h.n
  have h2 := nDigits_le h0 h.d
  omega
theorem dig_mk {K : Nat} {z : Int} {d : Nat} (hd : 0 < d) (h1 : z.natAbs < 10 ^ K) (h2 : d < 10 ^ K) : Dig K (mkRat z d) := by
  refine ⟨?_, ?_⟩
  · rw [Rat.num_mkRat, if_neg (by omega)]
    exact Nat.lt_of_le_of_lt (Int.natAbs_ediv_le_natAbs _ _) h1
  · rw [Rat.den_mkRat, if_neg (by omega)]
    exact Nat.lt_of_le_of_lt (Nat.div_le_self _ _) h2
def t1 : ByteArray := ⟨#[49]⟩
theorem outB_fits {q : Rat} (h : ¬ ovQ q) : outB q = txQ q := if_neg h
theorem outE_fits {q : Rat} (h : ¬ ovQ q) : outE q = 0 := if_neg h
end Go.Proofs.YtgphopkifomffaaGreatDoor
namespace Go.Proofs.YtgphopkifomffaaGreatDoor
open Go.RowKit
open Go.Lib (decDigits nDigits)
set_option linter.unusedVariables false
theorem qmk_nat (a b : Nat) : qmk false a b = mkRat (a : Int) b := by unfold qmk sgn; rfl
theorem dig_frac {K : Nat} {z : Int} {d : Nat} (hd : d ≠ 0) (h1 : nDigits z.natAbs ≤ K) (h2 : nDigits d ≤ K) : Dig K (mkRat z d) :=
  dig_mk (Nat.pos_of_ne_zero hd) (Nat.lt_of_lt_of_le (Go.Lib.lt_pow_nDigits _) (Nat.pow_le_pow_right (by omega) h1)) (Nat.lt_of_lt_of_le (Go.Lib.lt_pow_nDigits _) (Nat.pow_le_pow_right (by omega) h2))
theorem shB_tx {a b : Nat} (hb : b ≠ 0) (h1 : nDigits a ≤ 4000) (h2 : nDigits b ≤ 4000) : shB a b = txQ (mkRat (a : Int) b) := by
  unfold shB
  rw [qmk_nat]
  exact outB_fits ((dig_frac hb (by simpa using h1) h2).fits (by omega) (by omega))
theorem op2_txt {f : Rat → Rat → Rat} {p q : Rat} (hp : ¬ ovQ p) (hq : ¬ ovQ q) (h : ¬ ovQ (f p q)) : op2B f (txQ p) (txQ q) = txQ (f p q) ∧ op2E f (txQ p) (txQ q) = 0 := by
  have h1 := qE_txQ hp
  have h2 := qE_txQ hq
  refine ⟨?_, ?_⟩
  · rw [op2B, if_pos ⟨h1, h2⟩, vQ_txQ, vQ_txQ, outB_fits h]
  · rw [op2E, if_pos h1, if_pos h2, vQ_txQ, vQ_txQ, outE_fits h]
end Go.Proofs.YtgphopkifomffaaGreatDoor
namespace Go.Proofs.YtgphopkifomffaaGreatDoor
open Go.RowKit Go.Shelf
open Go.Lib (decDigits nDigits)
set_option linter.unusedVariables false
set_option linter.unusedSimpArgs false
theorem numB_inj {i j : Nat} (h : numB i = numB j) : i = j := by rw [← bN_num i, h, bN_num]
end Go.Proofs.YtgphopkifomffaaGreatDoor
namespace Go.Proofs.YtgphopkifomffaaGreatDoor
open Go.RowKit
open Go.Lib (decDigits nDigits)
set_option linter.unusedVariables false
set_option linter.unusedSimpArgs false
def zB (v : Int) : ByteArray := ⟨(Lib.itoa v).toArray⟩
theorem zB_list (v : Int) : (zB v).data.toList = Lib.itoa v := by simp [zB]
theorem zB_nat (n : Nat) : zB (n : Int) = numB n := by
  unfold zB numB
  rw [Lib.itoa_nonneg]
theorem decDigits_inj {a b : Nat} (h : decDigits a = decDigits b) : a = b := by
  have : numB a = numB b := by unfold numB; rw [h]
  exact numB_inj this
theorem zdec_head (n : Nat) (r : List UInt8) : decDigits n ≠ 45 :: r := fun h => by
  have := minus_dec n
  rw [h] at this
  simp [Lib.hasPrefix] at this
theorem zB_inj {v w : Int} (h : zB v = zB w) : v = w := by
  have h1 : Lib.itoa v = Lib.itoa w := by rw [← zB_list, ← zB_list, h]
  unfold Lib.itoa at h1
  split at h1 <;> split at h1
  · rename_i a b
    have := decDigits_inj (List.cons.inj h1).2
    omega
  · rename_i a b
    exact absurd h1.symm (zdec_head _ _)
  · rename_i a b
    exact absurd h1 (zdec_head _ _)
  · rename_i a b
    have := decDigits_inj h1
    omega
theorem zB_late (v : Int) : (zB v).data.toList ≠ lateB.data.toList := fun h => by
  rw [zB_list] at h
  unfold Lib.itoa at h
  split at h
  · have := congrArg List.head? h
    simp [lateB] at this
  · have h2 := numB_late v.toNat
    rw [numB_list] at h2
    exact h2 h
def glM (c : Int → Nat) (t n : Nat) : List (ByteArray × ByteArray) := (List.range (2 * n + 1)).filterMap fun (j : Nat) => if c ((j : Int) - n) = 0 then none else some (zB ((j : Int) - n), shB (c ((j : Int) - n)) t)
def glP (c : Int → Nat) (t n r : Nat) : List (ByteArray × ByteArray) := glM c t n ++ if r = 0 then [] else [(lateB, shB r t)]
theorem glM_mem {c : Int → Nat} {t n : Nat} {p : ByteArray × ByteArray} : p ∈ glM c t n ↔ ∃ v : Int, -(n : Int) ≤ v ∧ v ≤ n ∧ c v ≠ 0 ∧ p = (zB v, shB (c v) t) := by
  unfold glM
  rw [List.mem_filterMap]
  constructor
  · rintro ⟨j, hj, h⟩
    rw [List.mem_range] at hj
    split at h
    · cases h
    · rename_i h0
      exact ⟨(j : Int) - n, by omega, by omega, h0, (Option.some.inj h).symm⟩
  · rintro ⟨v, h1, h2, h3, rfl⟩
    refine ⟨(v + n).toNat, List.mem_range.2 (by omega), ?_⟩
    rw [show ((v + (n : Int)).toNat : Int) - (n : Int) = v by omega, if_neg h3]
theorem glM_nd (c : Int → Nat) (t n : Nat) : ((glM c t n).map keyL).Nodup := by
  unfold glM
  rw [List.map_filterMap]
  refine List.Pairwise.filterMap (R := fun a b => a ≠ b) _ (fun a b hab x hx y hy => ?_) List.nodup_range
  simp only [Option.map_eq_some_iff] at hx hy
  obtain ⟨p, hp, rfl⟩ := hx
  obtain ⟨q, hq, rfl⟩ := hy
  split at hp
  · cases hp
  · split at hq
    · cases hq
    · obtain rfl := (Option.some.inj hp).symm
      obtain rfl := (Option.some.inj hq).symm
      intro e
      have := zB_inj (ba_ext e)
      exact hab (by omega)
theorem glP_nd (c : Int → Nat) (t n r : Nat) : ((glP c t n r).map keyL).Nodup := by
  unfold glP
  split
  · rw [List.append_nil]; exact glM_nd c t n
  · rw [List.map_append, List.nodup_append]
    refine ⟨glM_nd c t n, by simp, ?_⟩
    intro a ha b hb e
    rw [List.mem_map] at ha
    obtain ⟨p, hp, rfl⟩ := ha
    obtain ⟨v, -, -, -, rfl⟩ := glM_mem.1 hp
    simp at hb
    subst hb
    exact zB_late v e
theorem glP_mem {c : Int → Nat} {t n r : Nat} {p : ByteArray × ByteArray} : p ∈ glP c t n r ↔ (∃ v : Int, -(n : Int) ≤ v ∧ v ≤ n ∧ c v ≠ 0 ∧ p = (zB v, shB (c v) t)) ∨ (r ≠ 0 ∧ p = (lateB, shB r t)) := by
  unfold glP
  rw [List.mem_append, glM_mem]
  refine or_congr Iff.rfl ?_
  split
  · rename_i h; simp [h]
  · rename_i h; simp [h]
theorem sortM_same {L M : List (ByteArray × ByteArray)} (h1 : (L.map keyL).Nodup) (h2 : (M.map keyL).Nodup) (h : ∀ p, p ∈ L ↔ p ∈ M) : sortM L = sortM M := by
  have n1 : L.Nodup := List.Pairwise.of_map keyL (fun a b h e => h (congrArg keyL e)) h1
  have n2 : M.Nodup := List.Pairwise.of_map keyL (fun a b h e => h (congrArg keyL e)) h2
  have hp : L.Perm M := (List.perm_ext_iff_of_nodup n1 n2).2 h
  have hs : (sortM L).Perm (sortM M) := ((List.mergeSort_perm L _).trans hp).trans (List.mergeSort_perm M _).symm
  refine List.Perm.eq_of_pairwise (le := fun p q => leB (keyL p) (keyL q) = true) ?_ (sortM_sorted _) (sortM_sorted _) hs
  intro a b ha hb hab hba
  simp only [leB, decide_eq_true_eq] at hab hba
  have e : keyL a = keyL b := List.le_antisymm hab hba
  have hb2 : b ∈ L := (h b).2 (sortM_mem.1 hb)
  have ha2 : a ∈ L := sortM_mem.1 ha
  obtain ⟨i, hi, rfl⟩ := List.getElem_of_mem ha2
  obtain ⟨j, hj, rfl⟩ := List.getElem_of_mem hb2
  have hij : i = j := by
    rcases Nat.lt_trichotomy i j with h3 | h3 | h3
    · have := List.pairwise_iff_getElem.1 h1 i j (by simpa using hi) (by simpa using hj) h3
      simp only [List.getElem_map, ne_eq] at this
      exact absurd e this
    · exact h3
    · have := List.pairwise_iff_getElem.1 h1 j i (by simpa using hj) (by simpa using hi) h3
      simp only [List.getElem_map, ne_eq] at this
      exact absurd e.symm this
  subst hij
  rfl
end Go.Proofs.YtgphopkifomffaaGreatDoor
namespace Go.Proofs.YtgphopkifomffaaGreatDoor
open Go.RowKit
set_option linter.unusedVariables false
set_option linter.unusedSimpArgs false
theorem sumN_pick (x : Nat) (k : Nat) : ∀ n, sumN (fun j => if j = k then x else 0) n = if k < n then x else 0
  | 0 => by simp [sumN]
  | n + 1 => by
    rw [sumN, sumN_pick x k n]
    by_cases h1 : k < n
    · rw [if_pos h1, if_neg (by omega), if_pos (by omega)]; rfl
    · rw [if_neg h1, Nat.zero_add]
      by_cases h2 : n = k
      · rw [if_pos h2, if_pos (by omega)]
      · rw [if_neg h2, if_neg (by omega)]
theorem seen_sum (c : Int → Nat) (n : Nat) : ∀ vs : List Int, vs.Nodup → (∀ v ∈ vs, -(n : Int) ≤ v ∧ v ≤ n) → (vs.map c).sum = sumN (fun j => if ((j : Int) - n) ∈ vs then c ((j : Int) - n) else 0) (2 * n + 1)
  | [], _, _ => by
    rw [sumN_congr (d := fun _ => 0) (fun j _ => by simp), sumN_zero]; rfl
  | v :: vs, hn, hb => by
    have ih := seen_sum c n vs (List.nodup_cons.1 hn).2 fun w hw => hb w (List.mem_cons_of_mem _ hw)
    have hv := hb v (List.mem_cons_self ..)
    have hnv := (List.nodup_cons.1 hn).1
    rw [List.map_cons, List.sum_cons, ih]
    have e : sumN (fun j => if ((j : Int) - n) ∈ v :: vs then c ((j : Int) - n) else 0) (2 * n + 1) = sumN (fun j => (if j = (v + n).toNat then c v else 0) + (if ((j : Int) - n) ∈ vs then c ((j : Int) - n) else 0)) (2 * n + 1) := by
      refine sumN_congr fun j hj => ?_
      by_cases h1 : j = (v + n).toNat
      · have h2 : (j : Int) - n = v := by omega
        rw [h2, if_pos (List.mem_cons_self ..), if_pos h1, if_neg hnv]; rfl
      · have h2 : (j : Int) - n ≠ v := by omega
        rw [if_neg h1, Nat.zero_add]
        by_cases h3 : ((j : Int) - n) ∈ vs
        · rw [if_pos h3, if_pos (List.mem_cons_of_mem _ h3)]
        · rw [if_neg h3, if_neg (fun h => by rcases List.mem_cons.1 h with h | h; exact h2 h; exact h3 h)]
    rw [e, sumN_add, sumN_pick, if_pos (by omega)]
structure Seen (c : Int → Nat) (n : Nat) (left : Int → Bool) (vs : List Int) : Prop where
  nd : vs.Nodup
  mem : ∀ v, v ∈ vs ↔ c v ≠ 0 ∧ left v = false
theorem Seen.start {c : Int → Nat} {n : Nat} {left : Int → Bool} (h : ∀ v, c v ≠ 0 → left v = true) : Seen c n left [] := ⟨List.nodup_nil, fun v => ⟨fun hv => by simp at hv, fun ⟨h1, h2⟩ => by rw [h v h1] at h2; cases h2⟩⟩
theorem Seen.step {c : Int → Nat} {n : Nat} {left left' : Int → Bool} {vs : List Int} {x : Int} (h : Seen c n left vs) (hx : left x = true) (hc : c x ≠ 0) (hl : ∀ v, left' v = (left v && !decide (v = x))) : Seen c n left' (vs ++ [x]) := by
  refine ⟨?_, fun v => ?_⟩
  · rw [List.nodup_append]
    refine ⟨h.nd, by simp, fun a ha b hb e => ?_⟩
    simp at hb
    subst hb
    subst e
    have := ((h.mem a).1 ha).2
    rw [hx] at this; cases this
  · rw [List.mem_append, h.mem, hl]
    constructor
    · rintro (⟨h1, h2⟩ | h1)
      · exact ⟨h1, by rw [h2]; rfl⟩
      · simp at h1
        subst h1
        exact ⟨hc, by simp⟩
    · rintro ⟨h1, h2⟩
      rw [Bool.and_eq_false_iff] at h2
      rcases h2 with h2 | h2
      · exact .inl ⟨h1, h2⟩
      · right; simp at h2; simp [h2]
theorem Seen.sum_le {N D : Nat} (hND : N < D) {two : Bool} {n : Nat} {left : Int → Bool} {vs : List Int} (h : Seen (gV N D two n) n left vs) : (vs.map (gV N D two n)).sum ≤ 2 ^ n := by
  rw [seen_sum _ n vs h.nd (fun v hv => by
    have h1 := ((h.mem v).1 hv).1
    rcases Int.lt_or_le v (-(n : Int)) with h2 | h2
    · exact absurd (gV_out hND (.inl h2)) h1
    · rcases Int.lt_or_le (n : Int) v with h3 | h3
      · exact absurd (gV_out hND (.inr h3)) h1
      · exact ⟨h2, h3⟩)]
  have h1 := gV_sum hND two n
  have h2 : sumN (fun j => if ((j : Int) - n) ∈ vs then gV N D two n ((j : Int) - n) else 0) (2 * n + 1) ≤ sumN (fun j => gV N D two n ((j : Int) - n)) (2 * n + 1) := sumN_le fun j _ => by split <;> omega
  omega
theorem Seen.sum_all {N D : Nat} (hND : N < D) {two : Bool} {n : Nat} {left : Int → Bool} {vs : List Int} (h : Seen (gV N D two n) n left vs) (hl : ∀ v, left v = false) : 2 ^ n - (vs.map (gV N D two n)).sum = gL N D two n := by
  rw [seen_sum _ n vs h.nd (fun v hv => by
    have h1 := ((h.mem v).1 hv).1
    rcases Int.lt_or_le v (-(n : Int)) with h2 | h2
    · exact absurd (gV_out hND (.inl h2)) h1
    · rcases Int.lt_or_le (n : Int) v with h3 | h3
      · exact absurd (gV_out hND (.inr h3)) h1
      · exact ⟨h2, h3⟩)]
  have h1 := gV_sum hND two n
  have h2 : sumN (fun j => if ((j : Int) - n) ∈ vs then gV N D two n ((j : Int) - n) else 0) (2 * n + 1) = sumN (fun j => gV N D two n ((j : Int) - n)) (2 * n + 1) := sumN_congr fun j _ => by
    split
    · rfl
    · rename_i hm
      rw [h.mem] at hm
      by_cases h0 : gV N D two n ((j : Int) - n) = 0
      · exact h0.symm
      · exact absurd ⟨h0, hl _⟩ hm
  omega
theorem Seen.pairs {N D : Nat} (hND : N < D) {two : Bool} {n t r : Nat} {left : Int → Bool} {vs : List Int} (h : Seen (gV N D two n) n left vs) (hl : ∀ v, left v = false) :
    (((vs.map fun v => (zB v, shB (gV N D two n v) t)) ++ if r = 0 then [] else [(lateB, shB r t)]).map keyL).Nodup ∧ sortM ((vs.map fun v => (zB v, shB (gV N D two n v) t)) ++ if r = 0 then [] else [(lateB, shB r t)]) = sortM (glP (gV N D two n) t n r) := by
  have hk : ((vs.map fun v => (zB v, shB (gV N D two n v) t)).map keyL).Nodup := by
    rw [List.map_map]
    refine List.Pairwise.map (R := fun a b => a ≠ b) _ (fun a b hab e => hab (zB_inj (ba_ext e))) h.nd
  have nd : (((vs.map fun v => (zB v, shB (gV N D two n v) t)) ++ if r = 0 then [] else [(lateB, shB r t)]).map keyL).Nodup := by
    split
    · rw [List.append_nil]; exact hk
    · rw [List.map_append, List.nodup_append]
      refine ⟨hk, by simp, fun a ha b hb e => ?_⟩
      simp only [List.mem_map] at ha
      obtain ⟨p, ⟨v, -, rfl⟩, rfl⟩ := ha
      simp at hb
      subst hb
      exact zB_late v e
  refine ⟨nd, sortM_same nd (glP_nd _ _ _ _) fun p => ?_⟩
  rw [glP_mem, List.mem_append, List.mem_map]
  refine or_congr ?_ ?_
  · constructor
    · rintro ⟨v, hv, rfl⟩
      have h1 := ((h.mem v).1 hv).1
      refine ⟨v, ?_, ?_, h1, rfl⟩
      · rcases Int.lt_or_le v (-(n : Int)) with h2 | h2
        · exact absurd (gV_out hND (.inl h2)) h1
        · exact h2
      · rcases Int.lt_or_le (n : Int) v with h3 | h3
        · exact absurd (gV_out hND (.inr h3)) h1
        · exact h3
    · rintro ⟨v, -, -, h1, rfl⟩
      exact ⟨v, (h.mem v).2 ⟨h1, hl v⟩, rfl⟩
  · split
    · rename_i h; simp [h]
    · rename_i h; simp [h]
end Go.Proofs.YtgphopkifomffaaGreatDoor
namespace Go.Proofs.YtgphopkifomffaaGreatDoor
open Go.RowKit
set_option linter.unusedVariables false
def zS (n : Nat) (f : Int → Nat) : Nat := sumN (fun j => f ((j : Int) - n)) (2 * n + 1)
theorem zS_congr {n : Nat} {f g : Int → Nat} (h : ∀ v, -(n : Int) ≤ v → v ≤ n → f v = g v) : zS n f = zS n g :=
  sumN_congr fun j hj => h _ (by omega) (by omega)
theorem zS_add (n : Nat) (f g : Int → Nat) : zS n (fun v => f v + g v) = zS n f + zS n g := sumN_add _ _ _
theorem zS_mul (n k : Nat) (f : Int → Nat) : zS n (fun v => k * f v) = k * zS n f := sumN_mul _ _ _
theorem zS_mulr (n k : Nat) (f : Int → Nat) : zS n (fun v => f v * k) = zS n f * k := by
  rw [zS_congr (g := fun v => k * f v) (fun v _ _ => Nat.mul_comm _ _), zS_mul, Nat.mul_comm]
theorem zS_zero (n : Nat) : zS n (fun _ => 0) = 0 := sumN_zero _
theorem zS_le {n : Nat} {f g : Int → Nat} (h : ∀ v, -(n : Int) ≤ v → v ≤ n → f v ≤ g v) : zS n f ≤ zS n g :=
  sumN_le fun j hj => h _ (by omega) (by omega)
theorem zS_pick {n : Nat} {x : Int} (h1 : -(n : Int) ≤ x) (h2 : x ≤ n) (y : Nat) : zS n (fun v => if v = x then y else 0) = y := by
  unfold zS
  rw [sumN_congr (d := fun j => if j = (x + n).toNat then y else 0) (fun j hj => by
    show (if (j : Int) - n = x then y else 0) = _
    by_cases h : (j : Int) - n = x
    · rw [if_pos h, if_pos (by omega)]
    · rw [if_neg h, if_neg (by omega)]), sumN_pick, if_pos (by omega)]
def vw (n : Nat) : List (Int → Nat) → (List Int → Nat) → Nat
  | [], F => F []
  | g :: gs, F => zS n fun x => g x * vw n gs fun r => F (x :: r)
theorem vw_congr {n : Nat} : ∀ {gs : List (Int → Nat)} {F G : List Int → Nat}, (∀ xs, xs.length = gs.length → (∀ x ∈ xs, -(n : Int) ≤ x ∧ x ≤ n) → F xs = G xs) → vw n gs F = vw n gs G
  | [], F, G, h => h [] rfl (by simp)
  | g :: gs, F, G, h => zS_congr fun v h1 h2 => by
    rw [vw_congr (gs := gs) (fun r hr hb => h (v :: r) (by simp [hr]) (by
      intro x hx
      rcases List.mem_cons.1 hx with rfl | hx
      · exact ⟨h1, h2⟩
      · exact hb x hx))]
theorem vw_zero (n : Nat) : ∀ gs : List (Int → Nat), vw n gs (fun _ => 0) = 0
  | [] => rfl
  | g :: gs => by rw [vw, zS_congr (g := fun _ => 0) (fun v _ _ => by rw [vw_zero n gs, Nat.mul_zero]), zS_zero]
def b1 (b : Bool) : Nat := if b = true then 1 else 0
def pAll (n : Nat) (gs : List (Int → Nat)) : Nat := vw n gs fun _ => 1
theorem pAll_cons (n : Nat) (g : Int → Nat) (gs : List (Int → Nat)) : pAll n (g :: gs) = zS n g * pAll n gs := by
  unfold pAll
  rw [vw, zS_mulr]
def ifS {α : Type} : Option α → (α → Bool) → Bool
  | none, _ => false
  | some x, k => k x
theorem cw_cut {K m : Nat} (Q : Int → List UInt8 → Bool) : ∀ (k : Nat) (F : List UInt8 → Option Int), (∀ a x, a.length = k → F a = some x → -(K : Int) ≤ x ∧ x ≤ K) →
    cw (k + m) (fun l => ifS (F (l.take k)) fun x => Q x (l.drop k)) = zS K fun x => cw k (fun a => decide (F a = some x)) * cw m (Q x)
  | 0, F, h => by
    rw [Nat.zero_add]
    simp only [List.take_zero, List.drop_zero]
    obtain ⟨o, ho⟩ : ∃ o, F [] = o := ⟨_, rfl⟩
    have e0 : ∀ v, cw 0 (fun a => decide (F a = some v)) = if o = some v then 1 else 0 := fun v => by
      rw [cw]
      by_cases h : F [] = some v
      · rw [if_pos (decide_eq_true h), if_pos (ho ▸ h)]
      · rw [if_neg (by simpa using h), if_neg (ho ▸ h)]
    rw [ho]
    cases o with
    | none =>
      show cw m (fun _ => false) = _
      rw [cw_false, zS_congr (g := fun _ => 0) (fun v _ _ => by rw [e0]; simp), zS_zero]
    | some x =>
      obtain ⟨h1, h2⟩ := h [] x rfl ho
      show cw m (Q x) = _
      rw [zS_congr (g := fun v => if v = x then cw m (Q x) else 0) (fun v _ _ => by
        rw [e0]
        by_cases e : v = x
        · subst e; simp
        · rw [if_neg e, if_neg (by simp; exact fun hh => e hh.symm), Nat.zero_mul]), zS_pick h1 h2]
  | k + 1, F, h => by
    have i1 := cw_cut (K := K) (m := m) Q k (fun a => F (48 :: a)) (fun a x ha => h (48 :: a) x (by simp [ha]))
    have i2 := cw_cut (K := K) (m := m) Q k (fun a => F (49 :: a)) (fun a x ha => h (49 :: a) x (by simp [ha]))
    rw [show k + 1 + m = (k + m) + 1 by omega, cw]
    have e1 : cw (k + m) (fun l => ifS (F ((48 :: l).take (k + 1))) fun x => Q x ((48 :: l).drop (k + 1))) = _ := i1
    have e2 : cw (k + m) (fun l => ifS (F ((49 :: l).take (k + 1))) fun x => Q x ((49 :: l).drop (k + 1))) = _ := i2
    rw [e1, e2, ← zS_add]
    exact zS_congr fun v _ _ => by rw [cw, Nat.add_mul]
def vals (n : Nat) : List (List UInt8 → Option Int) → List UInt8 → Option (List Int)
  | [], _ => some []
  | f :: fs, l => (f (l.take n)).bind fun x => (vals n fs (l.drop n)).map (x :: ·)
theorem cw_vals {n : Nat} : ∀ {fs : List (List UInt8 → Option Int)} (P : List Int → Bool), (∀ f ∈ fs, ∀ a x, a.length = n → f a = some x → -(n : Int) ≤ x ∧ x ≤ n) →
    cw (n * fs.length) (fun l => ifS (vals n fs l) P) = vw n (fs.map fun f x => cw n fun a => decide (f a = some x)) fun xs => b1 (P xs)
  | [], P, _ => by simp [vals, cw, vw, b1, ifS]
  | f :: fs, P, h => by
    rw [List.length_cons, Nat.mul_add, Nat.mul_one, Nat.add_comm, List.map_cons, vw]
    rw [cw_congr (Q := fun l => ifS (f (l.take n)) fun x => (fun x l => ifS (vals n fs l) fun xs => P (x :: xs)) x (l.drop n)) (fun l hl => by
      rw [vals]
      cases f (l.take n) with
      | none => rfl
      | some x =>
        show ifS ((vals n fs (l.drop n)).map (x :: ·)) P = ifS (vals n fs (l.drop n)) fun xs => P (x :: xs)
        cases vals n fs (l.drop n) <;> rfl), cw_cut (fun x l => ifS (vals n fs l) fun xs => P (x :: xs)) n f (h f (List.mem_cons_self ..))]
    exact zS_congr fun v _ _ => by rw [cw_vals (fs := fs) _ fun f' hf => h f' (List.mem_cons_of_mem _ hf)]
theorem valT_w {N D : Nat} (h : N < D) (two : Bool) (n : Nat) : ∀ a x, a.length = n → valT N D two a = some x → -(n : Int) ≤ x ∧ x ≤ n := fun a x ha e => by
  have := valT_bd h e
  rw [ha] at this
  exact this
theorem gV_all {N D : Nat} (h : N < D) (two : Bool) (n : Nat) : zS n (gV N D two n) + gL N D two n = 2 ^ n := gV_sum h two n
end Go.Proofs.YtgphopkifomffaaGreatDoor
namespace Go.Proofs.YtgphopkifomffaaGreatDoor
open Go.RowKit
open Go.Lib (decDigits nDigits)
set_option linter.unusedVariables false
theorem dy_nd {x m : Nat} (hx : x ≤ 2 ^ m) (h : m ≤ 1000) : nDigits x ≤ 4000 :=
  Nat.le_trans (nDigits_mono hx) (two_digits h)
def dyB (x m : Nat) : ByteArray := shB x (2 ^ m)
def dyQ (x m : Nat) : Rat := mkRat (x : Int) (2 ^ m)
theorem pow_ne (m : Nat) : 2 ^ m ≠ 0 := Nat.ne_of_gt (Nat.pow_pos (by omega))
theorem dy_tx {x m : Nat} (hx : x ≤ 2 ^ m) (h : m ≤ 1000) : dyB x m = txQ (dyQ x m) :=
  shB_tx (pow_ne m) (dy_nd hx h) (dy_nd (Nat.le_refl _) h)
theorem dy_fits {x m : Nat} (hx : x ≤ 2 ^ m) (h : m ≤ 1000) : ¬ ovQ (dyQ x m) :=
  (dig_frac (pow_ne m) (by simpa using dy_nd hx h) (dy_nd (Nat.le_refl _) h)).fits (by omega) (by omega)
theorem dyQ_mul (x y m k : Nat) : dyQ x m * dyQ y k = dyQ (x * y) (m + k) := by
  unfold dyQ
  rw [Rat.mkRat_mul_mkRat, Int.natCast_mul, Nat.pow_add]
theorem dyQ_add (x y m : Nat) : dyQ x m + dyQ y m = dyQ (x + y) m := by
  unfold dyQ
  rw [Rat.mkRat_add_mkRat _ _ (pow_ne m) (pow_ne m), ← Int.add_mul, Rat.mkRat_mul_right (pow_ne m), Int.natCast_add]
theorem dyQ_sub {x y m : Nat} (h : y ≤ x) : dyQ x m - dyQ y m = dyQ (x - y) m := by
  have := dyQ_add (x - y) y m
  rw [Nat.sub_add_cancel h] at this
  rw [← this, Rat.add_sub_cancel]
theorem dy_mul {x y m k : Nat} (hx : x ≤ 2 ^ m) (hy : y ≤ 2 ^ k) (h : m + k ≤ 1000) : op2B (· * ·) (dyB x m) (dyB y k) = dyB (x * y) (m + k) := by
  have hxy : x * y ≤ 2 ^ (m + k) := by rw [Nat.pow_add]; exact Nat.mul_le_mul hx hy
  rw [dy_tx hx (by omega), dy_tx hy (by omega), (op2_txt (f := (· * ·)) (dy_fits hx (by omega)) (dy_fits hy (by omega)) (by show ¬ ovQ (_ * _); rw [dyQ_mul]; exact dy_fits hxy h)).1]
  show txQ (_ * _) = _
  rw [dyQ_mul, dy_tx hxy h]
theorem dy_sub {x y m : Nat} (hx : x ≤ 2 ^ m) (hy : y ≤ x) (h : m ≤ 1000) : op2B (· - ·) (dyB x m) (dyB y m) = dyB (x - y) m := by
  rw [dy_tx (x := x) hx h, dy_tx (x := y) (by omega) h, (op2_txt (f := (· - ·)) (dy_fits hx (by omega)) (dy_fits (by omega) (by omega)) (by show ¬ ovQ (_ - _); rw [dyQ_sub hy]; exact dy_fits (by omega) h)).1]
  show txQ (_ - _) = _
  rw [dyQ_sub hy, dy_tx (by omega) h]
theorem dy_up (x m k : Nat) : dyB (x * 2 ^ k) (m + k) = dyB x m := by
  unfold dyB shB
  rw [qmk_nat, qmk_nat, Int.natCast_mul, Nat.pow_add, Rat.mkRat_mul_right (pow_ne k)]
theorem dy_zero (m : Nat) : dyB 0 m = ⟨#[48]⟩ := by
  have := dy_up 0 0 m
  rw [Nat.zero_mul, Nat.zero_add] at this
  rw [this]
  unfold dyB
  rw [shB_tx (by decide) (by decide +kernel) (by decide +kernel)]
  decide +kernel
theorem dy_one : dyB 1 0 = ⟨#[49]⟩ := by
  unfold dyB
  rw [shB_tx (by decide) (by decide +kernel) (by decide +kernel)]
  decide +kernel
theorem dy_full (m : Nat) : dyB (2 ^ m) m = ⟨#[49]⟩ := by
  have := dy_up 1 0 m
  rw [Nat.one_mul, Nat.zero_add] at this
  rw [this, dy_one]
end Go.Proofs.YtgphopkifomffaaGreatDoor
namespace Go.Proofs.YtgphopkifomffaaGreatDoor
open Go.RowKit
set_option linter.unusedVariables false
def nzV (c xs : List Int) : List Int := List.zipWith (· + ·) c xs
end Go.Proofs.YtgphopkifomffaaGreatDoor
namespace Go.Proofs.YtgphopkifomffaaGreatDoor
open Go.RowKit
open Go.Lib (decDigits nDigits)
def e3 : Nat := 300
def e7 : Nat := 700
end Go.Proofs.YtgphopkifomffaaGreatDoor
namespace Go.Proofs.YtgphopkifomffaaGreatDoor
open Go.RowKit
set_option linter.unusedVariables false
set_option linter.unusedSimpArgs false
section
variable {N D : Nat} (h : N < D) (n : Nat)
include h
end
theorem cw_not (P : List UInt8 → Bool) : ∀ n, cw n P + cw n (fun l => !P l) = 2 ^ n := fun n => by
  rw [← cw_all, ← cw_all, ← allW_length]
  have : ∀ L : List (List UInt8), L.countP P + L.countP (fun l => !P l) = L.length := fun L => by
    induction L with
    | nil => rfl
    | cons a r ih =>
      simp only [List.countP_cons, List.length_cons]
      cases P a <;> simp <;> omega
  exact this _
end Go.Proofs.YtgphopkifomffaaGreatDoor
namespace Go.Proofs.YtgphopkifomffaaGreatDoor
open Go.RowKit Go.Shelf
open Go.Lib (decDigits nDigits)
set_option linter.unusedVariables false
set_option linter.unusedSimpArgs false
theorem ordN_le {a b : Nat} : decide (ordN a b ≤ 0) = decide (a ≤ b) := by
  unfold ordN
  split
  · simp; omega
  · split <;> simp <;> omega
set_option maxRecDepth 100000 in
set_option maxHeartbeats 1000000 in
theorem c_sides (w : World) (n d : ByteArray) :
    Calls Tryz.prog 228 #[.string n, .string d] w fun e w' => e = .returned (.func (.func 249) #[] #[.pointer (some ⟨w.heap.size, 0, none⟩), .pointer (some ⟨w.heap.size + 1, 0, none⟩)]) ∧ w' = (w.alloc (.cells #[.string n] 22)).alloc (.cells #[.string d] 22) := by
  go_enter Tryz.func228, Tryz.ntmps228
  go_wp2_with fail
  go_ret
  exact ⟨rfl, rfl⟩
set_option maxRecDepth 100000 in
set_option maxHeartbeats 2000000 in
theorem c_side (w : World) (bn bd N D K T : Nat) (hn : Blk w bn #[.string (numB N)] 22) (hd : Blk w bd #[.string (numB D)] 22) (hf : Fits N D K T) (hL : Lay w) :
    Calls Tryz.prog 249 #[.string (numB K), .string (numB T), .pointer (some ⟨bn, 0, none⟩), .pointer (some ⟨bd, 0, none⟩)] w fun e w' => e = .returned (.tuple #[.int .i64 (sdV N D K T : Nat), .bool (sdB N D K T)]) ∧ Below w.heap.size w w' := by
  have dN := numB_small hf.n (by decide) (by decide)
  have dD := numB_small hf.d (by decide) (by decide)
  have dK := numB_small hf.k (by decide) (by decide)
  have dT := numB_small hf.t (by decide) (by decide)
  have f1 := fit_mul hf.n hf.t
  have f2 := fit_mul hf.k hf.d
  have dP := numB_small f1 (by decide) (by decide)
  have dQ := numB_small f2 (by decide) (by decide)
  have dS := numB_small (fit_add f2 (fit_up hf.d (by decide))) (by decide) (by decide)
  have T1 := fun V hV => hid (c_times V (numB N) (numB T) (numB_sz dN) (numB_sz dT) hV)
  have T2 := fun V hV => hid (c_times V (numB K) (numB D) (numB_sz dK) (numB_sz dD) hV)
  have T3 := fun V hV => hid (c_plus V (numB (K * D)) (numB D) (numB_sz dQ) (numB_sz dD) hV)
  have C1 := fun V => hid (n_Cmp V (numB (N * T)) (numB (K * D)) (numB_sz dP) (numB_sz dQ))
  have C2 := fun V => hid (n_Cmp V (numB (K * D + D)) (numB (N * T)) (numB_sz dS) (numB_sz dP))
  rw [natB_num dN dT dP] at T1
  rw [natB_num dK dD dQ] at T2
  rw [natB_num dQ dD dS] at T3
  rw [cmpN_num dP dQ] at C1
  rw [cmpN_num dS dP] at C2
  have HL := hid hL
  have HN := hid hn; have HD := hid hd
  have c0 := hn.cell 0
  have c1 := hd.cell 0
  simp only [List.getElem?_toArray, List.getElem?_cons_zero] at c0 c1
  have hSV : sdV N D K T = if N * T ≤ K * D then 0 else 1 := rfl
  have hSB : sdB N D K T = (decide (N * T ≤ K * D) || decide (K * D + D ≤ N * T)) := rfl
  rw [hSV, hSB]
  obtain ⟨P, hP⟩ : ∃ P, N * T = P := ⟨_, rfl⟩
  obtain ⟨Q, hQ⟩ : ∃ Q, K * D = Q := ⟨_, rfl⟩
  rw [hP] at T1 C1 C2 ⊢
  rw [hQ] at T2 T3 C1 C2 ⊢
  obtain ⟨sn, hsn⟩ : ∃ s, numB N = s := ⟨_, rfl⟩
  obtain ⟨sd, hsd⟩ : ∃ s, numB D = s := ⟨_, rfl⟩
  obtain ⟨sk, hsk⟩ : ∃ s, numB K = s := ⟨_, rfl⟩
  obtain ⟨st, hst⟩ : ∃ s, numB T = s := ⟨_, rfl⟩
  rw [hsn] at T1 c0 HN
  rw [hsd] at T2 T3 c1 HD
  rw [hsk] at T2 ⊢
  rw [hst] at T1 ⊢
  clear hsn hsd hsk hst hP hQ hSV hSB dN dD dK dT f1 f2 dP dQ dS hf hL hn hd
  go_enter Tryz.func249, Tryz.ntmps249
  go_wp2_with fail
  refine held_plain [0, 1, 3, 4] 4 (fun W' => W'.cell? ⟨bn, 0, none⟩ = some (.string sn) ∧ W'.cell? ⟨bd, 0, none⟩ = some (.string sd)) (by kernel_rfl) (by kernel_rfl) (by kernel_rfl) (by kernel_rfl) ⟨c0, c1⟩ ?_
  iterate 4
    refine ⟨_, rfl, ?_⟩
    apply Exists.intro
    refine ⟨.inl ⟨by rfl, ?_⟩, ?_⟩
    · (intro W' hW'
       obtain ⟨q1, q2⟩ := hW'
       go_simp
       try (with_reducible rfl))
    simp only [Act.put, List.setIfInBounds_toArray, List.set_cons_zero, List.set_cons_succ]
  refine held_one (i := 2) (by kernel_rfl) (by rfl) (by rfl) ?_
  go_wp2_with fail
  refine (T1 _ (HL.out.call (Below.refl _ _).drew)).out.mono ?_; rintro e w1 ⟨rfl, hb1⟩
  have y1 := hid (show Below w.heap.size w w1 from (Below.refl _ _).drew.trans hb1)
  have N1 := hid (HN.out.call y1.out); have D1 := hid (HD.out.call y1.out)
  clear hb1
  go_wp2_with fail
  refine ⟨⟨N1.out.cell 0, D1.out.cell 0⟩, ?_⟩
  refine held_one (i := 5) (by kernel_rfl) (by rfl) (by rfl) ?_
  go_wp2_with fail
  refine (T2 _ (HL.out.call y1.out)).out.mono ?_; rintro e w2 ⟨rfl, hb2⟩
  have y2 := hid (bnext y1.out hb2)
  have N2 := hid (N1.out.call hb2); have D2 := hid (D1.out.call hb2)
  clear hb2
  go_wp2_with fail
  refine ⟨⟨N2.out.cell 0, D2.out.cell 0⟩, ?_⟩
  refine held_one (i := 6) (by kernel_rfl) (by rfl) (by rfl) ?_
  go_wp2_with fail
  refine ⟨⟨N2.out.cell 0, D2.out.cell 0⟩, ?_⟩
  refine held_one (i := 7) (by kernel_rfl) (by rfl) (by rfl) ?_
  go_wp2_with fail
  refine ⟨⟨N2.out.cell 0, D2.out.cell 0⟩, ?_⟩
  refine wpAnyH_done (by kernel_rfl) ?_ _
  simp only [Only]
  go_wp2_with fail
  refine (C1 _).out.mono ?_; rintro e w3 ⟨rfl, hb3⟩
  have y3 := hid (bnext y2.out hb3)
  have D3 := hid (D2.out.call hb3)
  clear hb3
  have o1 := ordN_le (a := P) (b := Q)
  obtain ⟨x1, hx1⟩ : ∃ x, ordN P Q = x := ⟨_, rfl⟩
  rw [hx1] at o1 ⊢
  clear hx1
  by_cases h : P ≤ Q
  · simp only [h, decide_true, if_true, Bool.true_or] at o1 ⊢
    go_wp2_with fail
    go_ret2
    exact ⟨rfl, y3.out⟩
  · have o2 := ordN_le (a := Q + D) (b := P)
    have d3 := D3.out.cell 0
    simp only [List.getElem?_toArray, List.getElem?_cons_zero] at d3
    obtain ⟨x2, hx2⟩ : ∃ x, ordN (Q + D) P = x := ⟨_, rfl⟩
    obtain ⟨r, hr⟩ : ∃ r, decide (Q + D ≤ P) = r := ⟨_, rfl⟩
    rw [hx2] at o2 C2
    rw [hr] at o2
    simp only [h, decide_false, if_false, Bool.false_or] at o1 ⊢
    clear hx2
    go_wp2_with fail
    refine (T3 _ (HL.out.call y3.out)).out.mono ?_; rintro e w4 ⟨rfl, hb4⟩
    have y4 := hid (bnext y3.out hb4)
    clear hb4
    go_wp2_with fail
    refine (C2 _).out.mono ?_; rintro e w5 ⟨rfl, hb5⟩
    have y5 := hid (bnext y4.out hb5)
    clear hb5
    go_wp2_with fail
    go_ret2
    exact ⟨rfl, y5.out⟩
end Go.Proofs.YtgphopkifomffaaGreatDoor
namespace Go.Proofs.YtgphopkifomffaaGreatDoor
open Go.RowKit Go.Shelf
open Go.Lib (decDigits nDigits)
set_option linter.unusedVariables false
set_option linter.unusedSimpArgs false
def tossC (b k t : ByteArray) (bn bd : Nat) (dn : Bool) (v u : Int) : Array Value :=
  #[.string b, .string k, .string t, .func (.func 249) #[] #[.pointer (some ⟨bn, 0, none⟩), .pointer (some ⟨bd, 0, none⟩)], .bool dn, .int .i64 v, .int .i64 u]
structure Toss (w : World) (g bn bd : Nat) (b : ByteArray) (N D K T u : Nat) : Prop where
  blk : Blk w g (tossC b (numB K) (numB T) bn bd false 0 u) 261
  num : Blk w bn #[.string (numB N)] 22
  den : Blk w bd #[.string (numB D)] 22
  ln : bn < g
  ld : bd < g
set_option maxRecDepth 100000 in
set_option maxHeartbeats 600000 in
theorem c_look (w : World) (g bn bd : Nat) (b : ByteArray) (N D K T u : Nat) (ht : Toss w g bn bd b N D K T u) (hf : Fits N D K T) (hL : Lay w) (hs : b.size ≤ 100000) (hu : u ≤ b.size) :
    Calls Tryz.prog 229 #[.pointer (some ⟨g, 0, none⟩)] w fun e w' =>
      Below g w w' ∧
      ((sdB N D K T = true ∧ e = .returned .nilFunc ∧ Blk w' g (tossC b (numB K) (numB T) bn bd true (sdV N D K T : Nat) u) 261) ∨
       (sdB N D K T = false ∧ u = b.size ∧ e = .returned .nilFunc ∧ Toss w' g bn bd b N D K T u) ∨
       (sdB N D K T = false ∧ u < b.size ∧ e = .returned (.func (.func 252) #[.pointer (some ⟨g, 0, none⟩)] #[]) ∧ Toss w' g bn bd b N D K T u)) := by
  have HB := hid ht.blk
  have HN := hid ht.num
  have HD := hid ht.den
  have LN := hid ht.ln
  have LD := hid ht.ld
  have LG := hid (Blk.lt ht.blk)
  have HF := hid hf; have HL := hid hL; have HS := hid hs; have HU := hid hu
  have c0 : w.cell? ⟨g, 0, none⟩ = some (.string b) := ht.blk.cell 0
  have c1 : w.cell? ⟨g, 1, none⟩ = some (.string (numB K)) := ht.blk.cell 1
  have c2 : w.cell? ⟨g, 2, none⟩ = some (.string (numB T)) := ht.blk.cell 2
  have c3 : w.cell? ⟨g, 3, none⟩ = some (.func (.func 249) #[] #[.pointer (some ⟨bn, 0, none⟩), .pointer (some ⟨bd, 0, none⟩)]) := ht.blk.cell 3
  have e51 : ∀ args w, (callFunc 249 args).run Tryz.prog w = .ok (.enter 249 args) w := enters_of Tryz.func249 (by kernel_rfl) rfl
  obtain ⟨sk, hsk⟩ : ∃ s, numB K = s := ⟨_, rfl⟩
  obtain ⟨st, hst⟩ : ∃ s, numB T = s := ⟨_, rfl⟩
  have HK := hid hsk; have HT := hid hst
  rw [hsk] at c1
  rw [hst] at c2
  have CS := hid (c_side w.drew bn bd N D K T ht.num ht.den hf (hL.call (Below.refl _ _).drew))
  rw [hsk, hst] at CS
  obtain ⟨xv, hxv⟩ : ∃ x, sdV N D K T = x := ⟨_, rfl⟩
  obtain ⟨xb, hxb⟩ : ∃ x, sdB N D K T = x := ⟨_, rfl⟩
  rw [hxv, hxb] at CS
  rw [hxv, hxb]
  clear hsk hst ht hf hL hs hu hxv hxb
  go_enter Tryz.func229, Tryz.ntmps229
  go_wp2_with fail
  refine held_plain [0, 1, 2, 3, 4, 5, 6, 7, 8, 9, 10, 11] 6 (fun W' => (W'.cell? ⟨g, 1, none⟩ = some (.string sk) ∧ W'.cell? ⟨g, 2, none⟩ = some (.string st)) ∧ W'.cell? ⟨g, 3, none⟩ = some (.func (.func 249) #[] #[.pointer (some ⟨bn, 0, none⟩), .pointer (some ⟨bd, 0, none⟩)])) (by kernel_rfl) (by kernel_rfl) (by kernel_rfl) (by kernel_rfl) ⟨⟨c1, c2⟩, c3⟩ ?_
  iterate 12
    refine ⟨_, rfl, ?_⟩
    apply Exists.intro
    refine ⟨.inl ⟨by rfl, ?_⟩, ?_⟩
    · (intro W' hW'
       obtain ⟨⟨q1, q2⟩, q3⟩ := hW'
       go_simp
       try (with_reducible rfl))
    (dsimp only [Act.put]; try simp only [List.setIfInBounds_toArray, List.set_cons_zero, List.set_cons_succ])
  refine held_one (i := 12) (by kernel_rfl) (by rfl) (by rfl) ?_
  go_wp2_with fail
  refine CS.out.mono ?_; rintro e w1 ⟨rfl, hb1⟩
  have y1 := hid (show Below w.heap.size w w1 from (Below.refl _ _).drew.trans hb1)
  have B1 := hid (HB.out.call y1.out); have N1 := hid (HN.out.call y1.out); have D1 := hid (HD.out.call y1.out)
  have d0 : w1.cell? ⟨g, 0, none⟩ = some (.string b) := B1.out.cell 0
  have d1 : w1.cell? ⟨g, 1, none⟩ = some (.string (numB K)) := B1.out.cell 1
  have d2 : w1.cell? ⟨g, 2, none⟩ = some (.string (numB T)) := B1.out.cell 2
  have d3 : w1.cell? ⟨g, 3, none⟩ = some (.func (.func 249) #[] #[.pointer (some ⟨bn, 0, none⟩), .pointer (some ⟨bd, 0, none⟩)]) := B1.out.cell 3
  have d4 : w1.cell? ⟨g, 4, none⟩ = some (.bool false) := B1.out.cell 4
  have d5 : w1.cell? ⟨g, 5, none⟩ = some (.int .i64 0) := B1.out.cell 5
  have d6 : w1.cell? ⟨g, 6, none⟩ = some (.int .i64 u) := B1.out.cell 6
  have f4 := B1.out.free 4
  have f5 := B1.out.free 5
  rw [HK.out] at d1
  rw [HT.out] at d2
  clear hb1 c0 c1 c2 c3
  go_wp2_with fail
  refine ⟨⟨⟨d1, d2⟩, d3⟩, ?_⟩
  refine held_more (is := [13, 14, 15, 16, 17]) (g := 0) (by kernel_rfl) rfl ⟨⟨d1, d2⟩, d3⟩ (by kernel_rfl) ?_
  iterate 5
    refine ⟨_, rfl, ?_⟩
    apply Exists.intro
    refine ⟨.inl ⟨by rfl, ?_⟩, ?_⟩
    · (intro W' hW'
       clear hW'
       go_simp
       try (with_reducible rfl))
    (dsimp only [Act.put]; try simp only [List.setIfInBounds_toArray, List.set_cons_zero, List.set_cons_succ])
  refine wpAnyH_done (by kernel_rfl) ?_ _
  simp only [Only]
  cases xb
  · go_wp2_with fail
    refine held_plain [0, 1, 2, 3, 4, 5, 6, 7, 8, 9, 10] 0 (fun W' => W'.cell? ⟨g, 0, none⟩ = some (.string b) ∧ W'.cell? ⟨g, 6, none⟩ = some (.int .i64 u)) (by kernel_rfl) (by kernel_rfl) (by kernel_rfl) (by kernel_rfl) ⟨d0, d6⟩ ?_
    iterate 11
      refine ⟨_, rfl, ?_⟩
      apply Exists.intro
      refine ⟨.inl ⟨by rfl, ?_⟩, ?_⟩
      · (intro W' hW'
         obtain ⟨q1, q2⟩ := hW'
         go_simp
         try (with_reducible rfl))
      (dsimp only [Act.put]; try simp only [List.setIfInBounds_toArray, List.set_cons_zero, List.set_cons_succ])
    refine wpAnyH_done (by kernel_rfl) ?_ _
    simp only [Only]
    have y2 := hid y1.out.drew
    have T2 : Hid (Toss w1.drew g bn bd b N D K T u) := ⟨B1.out, N1.out, D1.out, LN.out, LD.out⟩
    obtain ⟨r, hr⟩ : ∃ r, ((u : Int) == (b.size : Int)) = r := ⟨_, rfl⟩
    rw [hr]
    have HR := hid hr
    clear hr d0 d1 d2 d3 d4 d5 d6 f4 f5 e51
    cases r
    · have HU2 := hid (show u < b.size from by have h1 := HU.out; have h2 := HR.out; simp at h2; omega)
      go_wp2_with fail
      go_ret
      exact ⟨y2.out.mono (Nat.le_of_lt LG.out), .inr ⟨HU2.out, rfl, T2.out⟩⟩
    · have HU2 := hid (show u = b.size from by have h2 := HR.out; simp at h2; omega)
      go_wp2_with fail
      go_ret
      exact ⟨y2.out.mono (Nat.le_of_lt LG.out), .inl ⟨HU2.out, rfl, T2.out⟩⟩
  · go_wp2_with fail
    go_ret
    have r1 := (B1.out.set 4 (.bool true)).set 5 (.int .i64 xv)
    refine ⟨?_, ⟨rfl, ?_⟩⟩
    · exact ((y1.out.mono (Nat.le_of_lt LG.out)).setCell (Nat.le_refl _) _).setCell (Nat.le_refl _) _
    · simpa [tossC] using r1
end Go.Proofs.YtgphopkifomffaaGreatDoor
namespace Go.Proofs.YtgphopkifomffaaGreatDoor
open Go.RowKit
variable {P : Program} {Q : Exit → Act → World → Prop}
def ThenL (P : Program) (ops : Array Oper) (Q : Exit → Act → World → Prop) (rest : List Oper) : Exit → Act → World → Prop
  | .normal, a, w => wpList P ops Q rest a w
  | e, a, w => Q e a w
theorem only_any {md : Region.Mode} {ops : Array Oper} : ∀ (fuel : Nat) (listed : Array Bool) (a : Act) (w : World), wpAny P md ops (Only Q) fuel listed a w → wpAny P md ops Q fuel listed a w := by
  intro fuel
  induction fuel with
  | zero => exact fun _ _ _ h => h
  | succ fuel ih =>
    rintro listed a w ⟨h1, h2⟩
    refine ⟨h1, fun i hi => ?_⟩
    have h := h2 i hi
    unfold wpOp at h ⊢
    split at h
    · rename_i ho
      exact ih _ _ _ h
    · rename_i o ho
      split at h
      · rename_i hw
        rw [if_pos hw]
        rcases h with h | ⟨_, a', w', h⟩
        · exact .inl (wp_turn (fun a w h => ih _ _ _ h) (fun _ _ _ h => h.elim) (fun ⟨_, _, h⟩ => h.elim) h)
        · exact h.elim
      · rename_i hw
        rw [if_neg hw]
        exact ih _ _ _ h
theorem one_last {ops : Array Oper} {oz : Oper} {Q' : Exit → Act → World → Prop} {a : Act} {w : World} (hB : splitB ops oz = true)
    (hP : ∀ c a w, Q' (.panic c) a w → Q (.panic c) a w) (hL : LetsOut Q' → LetsOut Q) (hN : ∀ a w, Q' .normal a w → oz.wp P a w (fun a w => Q .normal a w) Q ∨ (oz.asks P a w ∧ LetsOut Q))
    (h : wpAny P .any ops Q' ops.size (Array.replicate ops.size false) a w) : wpAny P .any (ops.push oz) Q (ops.push oz).size (Array.replicate (ops.push oz).size false) a w := by
  simp only [splitB, Bool.and_eq_true, List.all_eq_true, List.any_eq_true, List.mem_range, decide_eq_true_eq, Option.isNone_iff_eq_none, Array.mem_toList_iff] at hB
  obtain ⟨⟨⟨⟨h1, h2⟩, h3⟩, h4⟩, h5⟩ := hB
  have hl := wpAny_last (P := P) (md := .any) (ops := ops) (oz := oz) (fun i o ho => h1 o (Array.mem_of_getElem? ho)) h2 (fun e he _ => h3 e he)
    (fun i hi => by
      obtain ⟨e, he, hb, hon⟩ := h4 i hi
      refine ⟨e, he, hb, ?_⟩
      simp only [Bool.or_eq_true, beq_iff_eq] at hon
      refine hon.imp (fun h => h) fun hx => ?_
      split at hx
      · rename_i o ho
        simp only [List.any_eq_true, Bool.and_eq_true, beq_iff_eq, Array.mem_toList_iff] at hx
        obtain ⟨f, hf, hfb, hfo⟩ := hx
        exact ⟨o, ho, f, hf, hfb, hfo⟩
      · cases hx)
    (fun i o ho e he _ => by
      have := h5 i (Array.getElem?_eq_some_iff.1 ho).1
      rw [ho] at this
      simp only [List.all_eq_true, Array.mem_toList_iff, decide_eq_true_eq] at this
      exact this e he) hP hL hN ops.size (Array.replicate ops.size false) a w (by simp) (fun j o _ hj => by simp [Array.getD] at hj) h
  have hr : Array.replicate (ops.push oz).size false = (Array.replicate ops.size false).push false := by
    rw [Array.size_push]
    exact Array.replicate_succ
  rw [hr, Array.size_push]
  exact hl
def lastsB (l : List Oper) : Nat → Nat → Bool
  | 0, _ => true
  | k + 1, n => (match l[n]? with | some oz => splitB (l.take n).toArray oz | none => false) && lastsB l k (n + 1)
theorem any_lasts (l : List Oper) {a : Act} {w : World} : ∀ (k n : Nat), n + k = l.length → lastsB l k n = true →
    wpAny P .any (l.take n).toArray (ThenL P l.toArray Q (l.drop n)) (l.take n).toArray.size (Array.replicate (l.take n).toArray.size false) a w →
    wpAny P .any l.toArray Q l.toArray.size (Array.replicate l.toArray.size false) a w
  | 0, n, hn, _, h => by
    have e1 : l.take n = l := List.take_of_length_le (by omega)
    have e2 : l.drop n = [] := List.drop_of_length_le (by omega)
    have e3 : ThenL P l.toArray Q [] = Q := by
      funext e a w
      cases e <;> simp [ThenL, wpList]
    rw [e1, e2, e3] at h
    exact h
  | k + 1, n, hn, hB, h => by
    simp only [lastsB, Bool.and_eq_true] at hB
    obtain ⟨h1, h2⟩ := hB
    have hlt : n < l.length := by omega
    rw [List.getElem?_eq_getElem hlt] at h1
    have e1 : l.take (n + 1) = l.take n ++ [l[n]] := List.take_succ_eq_append_getElem hlt
    have e2 : l.drop n = l[n] :: l.drop (n + 1) := List.drop_eq_getElem_cons hlt
    refine any_lasts l k (n + 1) (by omega) h2 ?_
    have e3 : (l.take (n + 1)).toArray = (l.take n).toArray.push l[n] := by rw [e1]; simp
    rw [e3]
    have hgz : l[n].guard = none := by
      simp only [splitB, Bool.and_eq_true, Option.isNone_iff_eq_none] at h1
      exact h1.1.1.1.2
    refine one_last h1 (Q' := ThenL P l.toArray Q (l.drop n)) (fun _ _ _ h => h) (fun ⟨a, w, h⟩ => ⟨a, w, h⟩) (fun a w hq => ?_) h
    have hq' : wpList P l.toArray Q (l.drop n) a w := hq
    rw [e2] at hq'
    unfold wpList at hq'
    have hw : Region.wanted l[n] (yielded l.toArray a.tmps) = true := by simp [Region.wanted, hgz]
    rw [if_pos hw] at hq'
    rcases hq' with hq' | ⟨h3, h4⟩
    · exact .inl (wp_turn (fun _ _ h => h) (fun _ _ _ h => h) (fun ⟨a, w, h⟩ => ⟨a, w, h⟩) hq')
    · exact .inr ⟨h3, by obtain ⟨a, w, h⟩ := h4; exact ⟨a, w, h⟩⟩
theorem held_lasts {id : Nat} {a : Act} {w : World} {l : List Oper} (n k : Nat) (is : List Nat) (g : Nat) (S : World → Prop) (hm : P.follows .mixedOrders = true) (hk : n + k = l.length) (hlast : lastsB l k n = true) (hsel : Region.noSelect (l.take n).toArray = true) (hg : g + is.length = (l.take n).toArray.size) (hB : pickB .any (l.take n).toArray is (Array.replicate (l.take n).toArray.size false) = true) (hS : S w.drew)
    (h : wpPick P (l.take n) S (fun a' => wpAnyH P .any (l.take n).toArray (Only (ThenL P l.toArray Q (l.drop n))) S g (setL is (Array.replicate (l.take n).toArray.size false)) a' w.drew) is a) : (Code.region id l.toArray true).wp P Q a w := by
  refine wp_region_any hm (any_lasts l k n hk hlast ?_)
  have h2 := held_pick (P := P) (md := .any) (Q := ThenL P l.toArray Q (l.drop n)) (S := S) hsel (g := g) hS is (Array.replicate (l.take n).toArray.size false) a hB h
  rw [hg] at h2
  exact only_any _ _ _ _ (wpAny_of_held (S := S) _ _ _ _ h2)
end Go.Proofs.YtgphopkifomffaaGreatDoor
namespace Go.Proofs.YtgphopkifomffaaGreatDoor
open Go.RowKit
set_option linter.unusedVariables false
variable {P : Program} {Q : Exit → Act → World → Prop} {md : Region.Mode} {ops : Array Oper} {oz : Oper}
inductive Dep (md : Region.Mode) (ops : Array Oper) (oz : Oper) : Nat → Prop
  | here {e : Edge} : e ∈ oz.after → Region.binds md e = true → Dep md ops oz e.on
  | step {i : Nat} {o : Oper} {f : Edge} : Dep md ops oz i → ops[i]? = some o → f ∈ o.after → Region.binds md f = true → Dep md ops oz f.on
theorem Dep.on {listed : Array Bool} (hc : Closed md ops listed) (h : ∀ e ∈ oz.after, Region.binds md e = true → listed.getD e.on false = true) {i : Nat} (hd : Dep md ops oz i) : listed.getD i false = true := by
  induction hd with
  | here he hb => exact h _ he hb
  | step _ ho hf hb ih => exact hc _ _ ho ih _ hf hb
theorem ready_push_some2 {L0 : List Nat} (hz : ∀ e ∈ oz.after, Region.binds md e = true → e.on < ops.size) (hz2 : ∀ i, i < ops.size → i ∈ L0 ∨ Dep md ops oz i) (hfwd : ∀ i o, ops[i]? = some o → ∀ e ∈ o.after, Region.binds md e = true → e.on < i) {listed : Array Bool} (hs : listed.size = ops.size) (hcl : Closed md ops listed) (h0L : ∀ i ∈ L0, listed.getD i false = true) (hn : ¬ AllOn ops.size listed) :
    ∀ j, j ∈ Region.ready md (ops.push oz) (listed.push false) → j ∈ Region.ready md ops listed := by
  intro j hj
  rw [mem_ready] at hj ⊢
  obtain ⟨h0, o, ho, hall⟩ := hj
  have hlt : j < ops.size + 1 := by have := (Array.getElem?_eq_some_iff.1 ho).1; simpa using this
  by_cases hj' : j = ops.size
  · subst hj'
    have : o = oz := by simpa using ho.symm
    subst this
    refine absurd (fun i hi => ?_) hn
    rcases hz2 i hi with h | h
    · exact h0L i h
    · refine Dep.on hcl (fun e he hb => ?_) h
      have h1 := hall e he hb
      have h2 := hz e he hb
      rwa [getD_push_lt (by omega)] at h1
  · have hjl : j < ops.size := by omega
    rw [Array.getElem?_push_lt hjl] at ho
    rw [getD_push_lt (by omega)] at h0
    refine ⟨h0, o, by rw [Array.getElem?_eq_getElem hjl]; exact ho, fun e he hb => ?_⟩
    have h1 := hall e he hb
    have h2 := hfwd j o (by rw [Array.getElem?_eq_getElem hjl]; exact ho) e he hb
    rwa [getD_push_lt (by omega)] at h1
theorem wpAny_last2 {Q' : Exit → Act → World → Prop} {L0 : List Nat} (hgd : ∀ (i : Nat) (o : Oper), ops[i]? = some o → o.guard = none) (hgz : oz.guard = none)
    (hz : ∀ e ∈ oz.after, Region.binds md e = true → e.on < ops.size) (hz2 : ∀ i, i < ops.size → i ∈ L0 ∨ Dep md ops oz i)
    (hfwd : ∀ i o, ops[i]? = some o → ∀ e ∈ o.after, Region.binds md e = true → e.on < i)
    (hP : ∀ c a w, Q' (.panic c) a w → Q (.panic c) a w) (hL : LetsOut Q' → LetsOut Q) (hN : ∀ a w, Q' .normal a w → oz.wp P a w (fun a w => Q .normal a w) Q ∨ (oz.asks P a w ∧ LetsOut Q)) :
    ∀ (fuel : Nat) (listed : Array Bool) (a : Act) (w : World), listed.size = ops.size → Closed md ops listed → (∀ i ∈ L0, listed.getD i false = true) → wpAny P md ops Q' fuel listed a w → wpAny P md (ops.push oz) Q (fuel + 1) (listed.push false) a w := by
  have lastStep : ∀ (fuel : Nat) (listed : Array Bool) (a : Act) (w : World), listed.size = ops.size → AllOn ops.size listed → Q' .normal a w → wpAny P md (ops.push oz) Q (fuel + 1) (listed.push false) a w := by
    intro fuel listed a w hs hall hq
    have hmem : ops.size ∈ Region.ready md (ops.push oz) (listed.push false) := by
      rw [mem_ready]
      refine ⟨by rw [← hs]; simp [Array.getD], oz, by simp, fun e he hb => ?_⟩
      have := hz e he hb
      rw [getD_push_lt (by omega)]
      exact hall _ this
    refine ⟨fun h => (by rw [h] at hmem; cases hmem), fun j hj => ?_⟩
    have hje := ready_push_all hs hall j hj
    subst hje
    have hdone : Region.ready md (ops.push oz) ((listed.push false).setIfInBounds ops.size true) = [] := by
      refine List.eq_nil_iff_forall_not_mem.2 fun k hk => ?_
      rw [mem_ready] at hk
      obtain ⟨h0, o, ho, _⟩ := hk
      have hlt : k < ops.size + 1 := by have := (Array.getElem?_eq_some_iff.1 ho).1; simpa using this
      by_cases hk' : k = ops.size
      · subst hk'; simp [Array.getD, hs] at h0
      · have h1 : k < ops.size := by omega
        have h2 := hall k h1
        have h3 : k < listed.size := by omega
        simp [Array.getD, h3, Nat.lt_succ_of_lt h3, Ne.symm hk', Array.getElem_push_lt h3] at h0 h2
        rw [h0] at h2; cases h2
    unfold wpOp
    simp only [Array.getElem?_push_size]
    have hw : Region.wanted oz (yielded (ops.push oz) a.tmps) = true := by simp [Region.wanted, hgz]
    rw [if_pos hw]
    refine (hN a w hq).imp (fun hx => Oper.wp_mono (fun a' w' h' => ?_) hx) id
    cases fuel with
    | zero => exact ⟨hdone, h'⟩
    | succ fuel => exact ⟨fun _ => h', fun k hk => by rw [hdone] at hk; cases hk⟩
  intro fuel
  induction fuel with
  | zero =>
    intro listed a w hs _ _ h
    exact lastStep 0 listed a w hs (all_of_none hfwd hs h.1) h.2
  | succ fuel ih =>
    intro listed a w hs hcl h0L h
    by_cases hall : AllOn ops.size listed
    · refine lastStep (fuel + 1) listed a w hs hall (h.1 (List.eq_nil_iff_forall_not_mem.2 fun k hk => ?_))
      rw [mem_ready] at hk
      obtain ⟨h0, o, ho, _⟩ := hk
      have h1 := (Array.getElem?_eq_some_iff.1 ho).1
      have h2 := hall k h1
      have h3 : k < listed.size := by omega
      simp [Array.getD, h3] at h0 h2
      rw [h0] at h2; cases h2
    · refine ⟨fun hr => ?_, fun j hj => ?_⟩
      · have : Region.ready md ops listed = [] := List.eq_nil_iff_forall_not_mem.2 fun k hk => by
          have hk2 : k ∈ Region.ready md (ops.push oz) (listed.push false) := by
            rw [mem_ready] at hk ⊢
            obtain ⟨h0, o, ho, hh⟩ := hk
            have h1 := (Array.getElem?_eq_some_iff.1 ho).1
            refine ⟨by rw [getD_push_lt (by omega)]; exact h0, o, by rw [Array.getElem?_push_lt h1, ← Array.getElem?_eq_getElem h1]; exact ho, fun e he hb => ?_⟩
            rw [getD_push_lt (by have := hfwd k o ho e he hb; omega)]
            exact hh e he hb
          rw [hr] at hk2; cases hk2
        exact absurd (all_of_none hfwd hs this) hall
      · have hj' := ready_push_some2 hz hz2 hfwd hs hcl h0L hall j hj
        have h1 := h.2 j hj'
        have hlt : j < ops.size := by
          rw [mem_ready] at hj'
          obtain ⟨_, o, ho, _⟩ := hj'
          exact (Array.getElem?_eq_some_iff.1 ho).1
        unfold wpOp at h1 ⊢
        rw [Array.getElem?_push_lt hlt]
        rw [Array.getElem?_eq_getElem hlt] at h1
        simp only at h1 ⊢
        have hg := hgd j _ (Array.getElem?_eq_getElem hlt)
        have hw1 : Region.wanted ops[j] (yielded (ops.push oz) a.tmps) = true := by simp [Region.wanted, hg]
        have hw2 : Region.wanted ops[j] (yielded ops a.tmps) = true := by simp [Region.wanted, hg]
        rw [if_pos hw1]
        rw [if_pos hw2] at h1
        rcases h1 with h1 | ⟨h1, h2⟩
        · refine .inl (wp_turn (fun a' w' h' => ?_) hP hL h1)
          rw [set_push (by omega)]
          exact ih _ _ _ (by simp [hs]) (hcl.set hj') (fun i hi => getD_set_true (h0L i hi)) h'
        · exact .inr ⟨h1, hL h2⟩
def edgeB (md : Region.Mode) (ops : Array Oper) (j i : Nat) : Bool := match ops[j]? with | some o => o.after.toList.any (fun f => Region.binds md f && f.on == i) | none => false
theorem edgeB_spec {j i : Nat} (h : edgeB md ops j i = true) : ∃ o f, ops[j]? = some o ∧ f ∈ o.after ∧ Region.binds md f = true ∧ f.on = i := by
  unfold edgeB at h
  split at h
  · rename_i o ho
    simp only [List.any_eq_true, Bool.and_eq_true, beq_iff_eq, Array.mem_toList_iff] at h
    obtain ⟨f, hf, hb, hon⟩ := h
    exact ⟨o, f, ho, hf, hb, hon⟩
  · cases h
def viaB (md : Region.Mode) (ops : Array Oper) (known : List Nat) : List (Nat × Nat) → List Nat
  | [] => known
  | (i, j) :: r => viaB md ops (if (known.contains j && edgeB md ops j i) = true then i :: known else known) r
theorem viaB_dep : ∀ (r : List (Nat × Nat)) (known : List Nat), (∀ i ∈ known, Dep md ops oz i) → ∀ i ∈ viaB md ops known r, Dep md ops oz i
  | [], known, h => h
  | (i, j) :: r, known, h => by
    unfold viaB
    refine viaB_dep r _ ?_
    by_cases hc : (known.contains j && edgeB md ops j i) = true
    · rw [if_pos hc]
      simp only [Bool.and_eq_true] at hc
      obtain ⟨hj, hx⟩ := hc
      obtain ⟨o, f, ho, hf, hb, hon⟩ := edgeB_spec hx
      intro m hm
      rcases List.mem_cons.1 hm with rfl | hm
      · rw [← hon]
        exact .step (h j (by simpa using hj)) ho hf hb
      · exact h m hm
    · rw [if_neg hc]
      exact h
def splitB2 (md : Region.Mode) (ops : Array Oper) (oz : Oper) (L0 : List Nat) (via : List (Nat × Nat)) : Bool :=
  ops.toList.all (fun o => o.guard.isNone) && oz.guard.isNone && oz.after.toList.all (fun e => !Region.binds md e || decide (e.on < ops.size)) &&
  (List.range ops.size).all (fun i => L0.contains i || (viaB md ops ((oz.after.toList.filter (Region.binds md)).map (·.on)) via).contains i) &&
  (List.range ops.size).all (fun i => match ops[i]? with | some o => o.after.toList.all (fun e => !Region.binds md e || decide (e.on < i)) | none => true)
theorem one_last2 {Q' : Exit → Act → World → Prop} {L0 : List Nat} {via : List (Nat × Nat)} {a : Act} {w : World} {fuel : Nat} {listed : Array Bool} (hB : splitB2 md ops oz L0 via = true) (hs : listed.size = ops.size) (hcl : Closed md ops listed) (h0L : ∀ i ∈ L0, listed.getD i false = true)
    (hP : ∀ c a w, Q' (.panic c) a w → Q (.panic c) a w) (hL : LetsOut Q' → LetsOut Q) (hN : ∀ a w, Q' .normal a w → oz.wp P a w (fun a w => Q .normal a w) Q ∨ (oz.asks P a w ∧ LetsOut Q))
    (h : wpAny P md ops Q' fuel listed a w) : wpAny P md (ops.push oz) Q (fuel + 1) (listed.push false) a w := by
  simp only [splitB2, Bool.and_eq_true, List.all_eq_true, List.mem_range, decide_eq_true_eq, Option.isNone_iff_eq_none, Array.mem_toList_iff, Bool.or_eq_true, Bool.not_eq_true'] at hB
  obtain ⟨⟨⟨⟨h1, h2⟩, h3⟩, h4⟩, h5⟩ := hB
  refine wpAny_last2 (L0 := L0) (fun i o ho => h1 o (Array.mem_of_getElem? ho)) h2 (fun e he hb => ?_) (fun i hi => ?_) (fun i o ho e he hb => ?_) hP hL hN fuel listed a w hs hcl h0L h
  · rcases h3 e he with h | h
    · rw [hb] at h; cases h
    · exact h
  · rcases h4 i hi with h | h
    · exact .inl (by simpa using h)
    · refine .inr (viaB_dep via _ (fun j hj => ?_) i (by simpa using h))
      obtain ⟨e, he, rfl⟩ := List.mem_map.1 hj
      obtain ⟨he1, he2⟩ := List.mem_filter.1 he
      exact .here (by simpa using he1) he2
  · have := h5 i (Array.getElem?_eq_some_iff.1 ho).1
    rw [ho] at this
    simp only [List.all_eq_true, Array.mem_toList_iff, Bool.or_eq_true, Bool.not_eq_true', decide_eq_true_eq] at this
    rcases this e he with h | h
    · rw [hb] at h; cases h
    · exact h
def lastsB2 (l : List Oper) (L0 : List Nat) (via : List (Nat × Nat)) : Nat → Nat → Bool
  | 0, _ => true
  | k + 1, n => (match l[n]? with | some oz => splitB2 .any (l.take n).toArray oz L0 via | none => false) && lastsB2 l L0 via k (n + 1)
def closedB (md : Region.Mode) (ops : Array Oper) (listed : Array Bool) : Bool :=
  (List.range ops.size).all fun j => !listed.getD j false || (match ops[j]? with | some o => o.after.toList.all (fun e => !Region.binds md e || listed.getD e.on false) | none => true)
theorem closedB_spec {listed : Array Bool} (h : closedB md ops listed = true) : Closed md ops listed := by
  intro j o ho hj e he hb
  simp only [closedB, List.all_eq_true, List.mem_range, Bool.or_eq_true, Bool.not_eq_true'] at h
  rcases h j (Array.getElem?_eq_some_iff.1 ho).1 with h1 | h1
  · rw [hj] at h1; cases h1
  · rw [ho] at h1
    simp only [List.all_eq_true, Array.mem_toList_iff, Bool.or_eq_true, Bool.not_eq_true'] at h1
    rcases h1 e he with h2 | h2
    · rw [hb] at h2; cases h2
    · exact h2
theorem Closed.pushed {listed : Array Bool} (h : Closed md ops listed) (hs : listed.size = ops.size) (hfwd : ∀ i o, ops[i]? = some o → ∀ e ∈ o.after, Region.binds md e = true → e.on < i) : Closed md (ops.push oz) (listed.push false) := by
  intro j o ho hj e he hb
  have hlt : j < ops.size + 1 := by have := (Array.getElem?_eq_some_iff.1 ho).1; simpa using this
  by_cases hj2 : j = ops.size
  · subst hj2
    exfalso
    simp [Array.getD, ← hs] at hj
  · have h1 : j < ops.size := by omega
    rw [Array.getElem?_push_lt h1] at ho
    rw [getD_push_lt (by omega)] at hj
    have ho' : ops[j]? = some o := by rw [Array.getElem?_eq_getElem h1]; exact ho
    have h2 := hfwd j o ho' e he hb
    rw [getD_push_lt (by omega)]
    exact h j o ho' hj e he hb
theorem any_lasts2 (l : List Oper) (L0 : List Nat) (via : List (Nat × Nat)) {a : Act} {w : World} : ∀ (k n fuel : Nat) (listed : Array Bool), n + k = l.length → lastsB2 l L0 via k n = true → listed.size = (l.take n).toArray.size → Closed .any (l.take n).toArray listed → (∀ i ∈ L0, listed.getD i false = true) →
    wpAny P .any (l.take n).toArray (ThenL P l.toArray Q (l.drop n)) fuel listed a w →
    wpAny P .any l.toArray Q (fuel + k) (listed ++ Array.replicate k false) a w
  | 0, n, fuel, listed, hn, _, hs, hc, h0, h => by
    have e1 : l.take n = l := List.take_of_length_le (by omega)
    have e2 : l.drop n = [] := List.drop_of_length_le (by omega)
    have e3 : ThenL P l.toArray Q [] = Q := by
      funext e a w
      cases e <;> simp [ThenL, wpList]
    rw [e1, e2, e3] at h
    simpa using h
  | k + 1, n, fuel, listed, hn, hB, hs, hc, h0, h => by
    simp only [lastsB2, Bool.and_eq_true] at hB
    obtain ⟨h1, h2⟩ := hB
    have hlt : n < l.length := by omega
    rw [List.getElem?_eq_getElem hlt] at h1
    have e1 : l.take (n + 1) = l.take n ++ [l[n]] := List.take_succ_eq_append_getElem hlt
    have e2 : l.drop n = l[n] :: l.drop (n + 1) := List.drop_eq_getElem_cons hlt
    have e3 : (l.take (n + 1)).toArray = (l.take n).toArray.push l[n] := by rw [e1]; simp
    have h1' := h1
    simp only [splitB2, Bool.and_eq_true, List.all_eq_true, List.mem_range, Option.isNone_iff_eq_none, Array.mem_toList_iff, Bool.or_eq_true, Bool.not_eq_true', decide_eq_true_eq] at h1'
    have hgz : l[n].guard = none := h1'.1.1.1.2
    have hfwd : ∀ (i : Nat) (o : Oper), (l.take n).toArray[i]? = some o → ∀ e ∈ o.after, Region.binds .any e = true → e.on < i := by
      intro i o ho e he hb
      have := h1'.2 i (Array.getElem?_eq_some_iff.1 ho).1
      rw [ho] at this
      simp only [List.all_eq_true, Array.mem_toList_iff, Bool.or_eq_true, Bool.not_eq_true', decide_eq_true_eq] at this
      rcases this e he with h | h
      · rw [hb] at h; cases h
      · exact h
    have step := one_last2 (P := P) (md := .any) (ops := (l.take n).toArray) (oz := l[n]) (Q := ThenL P l.toArray Q (l.drop (n + 1))) (Q' := ThenL P l.toArray Q (l.drop n)) (L0 := L0) (via := via) (a := a) (w := w) (fuel := fuel) (listed := listed) h1 hs hc h0 (fun _ _ _ h => h) (fun ⟨a, w, h⟩ => ⟨a, w, h⟩) (fun a w hq => by
      have hq' : wpList P l.toArray Q (l.drop n) a w := hq
      rw [e2] at hq'
      unfold wpList at hq'
      have hw : Region.wanted l[n] (yielded l.toArray a.tmps) = true := by simp [Region.wanted, hgz]
      rw [if_pos hw] at hq'
      rcases hq' with hq' | ⟨h3, h4⟩
      · exact .inl (wp_turn (fun _ _ h => h) (fun _ _ _ h => h) (fun ⟨a, w, h⟩ => ⟨a, w, h⟩) hq')
      · exact .inr ⟨h3, by obtain ⟨a, w, h⟩ := h4; exact ⟨a, w, h⟩⟩) h
    rw [← e3] at step
    have := any_lasts2 l L0 via k (n + 1) (fuel + 1) (listed.push false) (by omega) h2 (by rw [e3, Array.size_push, Array.size_push, hs]) (by rw [e3]; exact hc.pushed hs hfwd) (fun i hi => by
      have hx := h0 i hi
      by_cases hi2 : i < listed.size
      · rw [getD_push_lt hi2]; exact hx
      · simp [Array.getD, hi2] at hx) step
    have e5 : listed.push false ++ Array.replicate k false = listed ++ Array.replicate (k + 1) false := by
      apply Array.ext_getElem?
      intro i
      simp only [Array.getElem?_append, Array.getElem?_push, Array.size_push, Array.getElem?_replicate]
      by_cases h1 : i < listed.size
      · have h2 : i < listed.size + 1 := by omega
        have h3 : ¬ i = listed.size := by omega
        simp [h1, h2, h3]
      · by_cases h2 : i = listed.size
        · subst h2; simp
        · have h3 : ¬ i < listed.size + 1 := by omega
          simp [h1, h3]
          have e : i - (listed.size + 1) < k ↔ i - listed.size < k + 1 := by omega
          simp [e]
    rw [e5] at this
    rw [show fuel + (k + 1) = fuel + 1 + k by omega]
    exact this
theorem wpPick_mono {l : List Oper} {S : World → Prop} {L L' : Act → Prop} (hL : ∀ a, L a → L' a) : ∀ (is : List Nat) (a : Act), wpPick P l S L is a → wpPick P l S L' is a
  | [], a, h => hL a h
  | i :: is, a, ⟨o, ho, v, hy, h⟩ => ⟨o, ho, v, hy, wpPick_mono hL is _ h⟩
theorem held_true : ∀ (fuel : Nat) (listed : Array Bool) (a : Act) (w : World), wpAny P md ops Q fuel listed a w → wpAnyH P md ops Q (fun _ => True) fuel listed a w := by
  intro fuel
  induction fuel with
  | zero => exact fun _ _ _ h => h
  | succ fuel ih =>
    rintro listed a w ⟨h1, h2⟩
    refine ⟨h1, fun i hi => ?_⟩
    have h := h2 i hi
    unfold wpOp at h ⊢
    split at h
    · rename_i ho
      exact ⟨trivial, ih _ _ _ h⟩
    · rename_i o ho
      split at h
      · rename_i hw
        rw [if_pos hw]
        exact h.imp (fun h => Oper.wp_mono (fun a w h => ⟨trivial, ih _ _ _ h⟩) h) id
      · rename_i hw
        rw [if_neg hw]
        exact ⟨trivial, ih _ _ _ h⟩
theorem held_lasts2 {id : Nat} {a : Act} {w : World} {l : List Oper} (n k : Nat) (pre : List Nat) (via : List (Nat × Nat)) (is : List Nat) (g : Nat) (S : World → Prop) (hm : P.follows .mixedOrders = true) (hk : n + k = l.length)
    (hsel0 : Region.noSelect l.toArray = true) (hpre : pickB .any l.toArray pre (Array.replicate l.toArray.size false) = true)
    (hlast : lastsB2 l pre via k n = true) (hset : setL pre (Array.replicate l.toArray.size false) = setL pre (Array.replicate n false) ++ Array.replicate k false) (hsz : (setL pre (Array.replicate n false)).size = (l.take n).toArray.size) (hclo : closedB .any (l.take n).toArray (setL pre (Array.replicate n false)) = true) (hon : (pre.all fun i => (setL pre (Array.replicate n false)).getD i false) = true)
    (hsel : Region.noSelect (l.take n).toArray = true) (hg : g + is.length + k + pre.length = l.toArray.size) (hB : pickB .any (l.take n).toArray is (setL pre (Array.replicate n false)) = true) (hS : S w.drew)
    (h : wpPick P l (fun _ => True) (fun a1 => wpPick P (l.take n) S (fun a' => wpAnyH P .any (l.take n).toArray (Only (ThenL P l.toArray (Only Q) (l.drop n))) S g (setL is (setL pre (Array.replicate n false))) a' w.drew) is a1) pre a) : (Code.region id l.toArray true).wp P Q a w := by
  refine wp_region_any hm (only_any _ _ _ _ (wpAny_of_held (S := fun _ => True) _ _ _ _ ?_))
  have h1 := held_pick (P := P) (md := .any) (Q := Q) (S := fun _ => True) (w := w.drew) hsel0 (g := g + is.length + k) trivial pre (Array.replicate l.toArray.size false) a hpre ?_
  · rw [hg] at h1
    exact h1
  · refine wpPick_mono (fun a1 h2 => ?_) pre a h
    refine held_true _ _ _ _ ?_
    rw [hset]
    refine any_lasts2 l pre via k n (g + is.length) _ hk hlast hsz (closedB_spec hclo) (fun i hi => by simpa using List.all_eq_true.1 hon i hi) ?_
    exact only_any _ _ _ _ (wpAny_of_held (S := S) _ _ _ _ (held_pick (P := P) (md := .any) (S := S) hsel (g := g) hS is _ a1 hB h2))
end Go.Proofs.YtgphopkifomffaaGreatDoor
namespace Go.Proofs.YtgphopkifomffaaGreatDoor
open Go.RowKit Go.Shelf
open Go.Lib (decDigits nDigits)
set_option linter.unusedVariables false
set_option linter.unusedSimpArgs false
theorem c_double (V : World) (K : Nat) (hK : K < 10 ^ eK) (hL : Lay V) : Calls Tryz.prog 251 #[.string (numB K), .string (numB K)] V fun e w' => e = .returned (.string (numB (K + K))) ∧ Below V.heap.size V w' := by
  have dK := numB_small hK (by decide) (by decide)
  have h := c_plus V (numB K) (numB K) (numB_sz dK) (numB_sz dK) hL
  rw [natB_num dK dK (numB_small (fit_add hK hK) (by decide) (by decide))] at h
  exact h
theorem c_inc (V : World) (K : Nat) (hK : K < 10 ^ (eK + 1)) (hL : Lay V) : Calls Tryz.prog 251 #[.string (numB K), .string ⟨#[49]⟩] V fun e w' => e = .returned (.string (numB (K + 1))) ∧ Below V.heap.size V w' := by
  have dK := numB_small hK (by decide) (by decide)
  have e1 : (⟨#[49]⟩ : ByteArray) = numB 1 := by unfold numB; rw [dec_one]
  have d1 : nDigits 1 ≤ 4000 := numB_small (n := 1) (k := 1) (by decide) (by decide) (by decide)
  have h := c_plus V (numB K) (numB 1) (numB_sz dK) (numB_sz d1) hL
  rw [natB_num dK d1 (numB_small (k := eK + 1 + 1) (fit_add hK (Nat.lt_of_lt_of_le (show 1 < 10 by decide) (Nat.le_self_pow (by decide) 10))) (by decide) (by decide))] at h
  rw [e1]
  exact h
set_option maxRecDepth 100000 in
set_option maxHeartbeats 2000000 in
theorem c_read (w : World) (g bn bd : Nat) (b : ByteArray) (N D K T u : Nat) (ht : Toss w g bn bd b N D K T u) (hf : Fits N D K T) (hL : Lay w) (hs : b.size ≤ 100000) (hu : u < b.size) (hG : LayLt g) :
    Calls Tryz.prog 252 #[.pointer (some ⟨g, 0, none⟩)] w fun e w' =>
      Below g w w' ∧ e = .returned (.func (.func 229) #[.pointer (some ⟨g, 0, none⟩)] #[]) ∧ Toss w' g bn bd b N D (K + K + (if b[u] = 49 then 1 else 0)) (T + T) (u + 1) := by
  have HB := hid ht.blk
  have HN := hid ht.num
  have HD := hid ht.den
  have LN := hid ht.ln
  have LD := hid ht.ld
  have LG := hid (Blk.lt ht.blk)
  have HL := hid hL; have HS := hid hs; have HG := hid hG
  have c1 : w.cell? ⟨g, 1, none⟩ = some (.string (numB K)) := ht.blk.cell 1
  have c2 : w.cell? ⟨g, 2, none⟩ = some (.string (numB T)) := ht.blk.cell 2
  have P1 := fun V hV => hid (c_double V K hf.k hV)
  have P2 := fun V hV => hid (c_double V T hf.t hV)
  have P3 := fun V hV => hid (c_inc V (K + K) (fit_add hf.k hf.k) hV)
  obtain ⟨sk, hsk⟩ : ∃ s, numB K = s := ⟨_, rfl⟩
  obtain ⟨st, hst⟩ : ∃ s, numB T = s := ⟨_, rfl⟩
  rw [hsk] at c1 P1 HB
  rw [hst] at c2 P2 HB
  clear hsk hst ht hf hL hs hG
  go_enter Tryz.func252, Tryz.ntmps252
  go_wp2_with fail
  refine held_lasts2 20 6 [1] [(13, 14), (12, 13), (11, 12), (17, 18), (16, 17), (15, 16), (20, 21), (23, 24)] [0, 2, 3, 4, 5, 6, 7, 8, 9, 11, 12, 13, 14, 15, 16, 17, 18] 2 (fun W' => W'.cell? ⟨g, 1, none⟩ = some (.string sk) ∧ W'.cell? ⟨g, 2, none⟩ = some (.string st)) (by kernel_rfl) (by kernel_rfl) (by kernel_rfl) (by kernel_rfl) (by kernel_rfl) (by kernel_rfl) (by kernel_rfl) (by kernel_rfl) (by kernel_rfl) (by kernel_rfl) (by kernel_rfl) (by kernel_rfl) ⟨c1, c2⟩ ?_
  iterate 1
    refine ⟨_, rfl, ?_⟩
    apply Exists.intro
    refine ⟨.inl ⟨by rfl, ?_⟩, ?_⟩
    · (intro W' hW'
       clear hW'
       go_simp
       try (with_reducible rfl))
    (dsimp only [Act.put]; try simp only [List.setIfInBounds_toArray, List.set_cons_zero, List.set_cons_succ])
  iterate 17
    refine ⟨_, rfl, ?_⟩
    apply Exists.intro
    refine ⟨.inl ⟨by rfl, ?_⟩, ?_⟩
    · (intro W' hW'
       obtain ⟨q1, q2⟩ := hW'
       go_simp
       try (with_reducible rfl))
    (dsimp only [Act.put]; try simp only [List.setIfInBounds_toArray, List.set_cons_zero, List.set_cons_succ])
  refine held_one (i := 10) (by kernel_rfl) (by rfl) (by rfl) ?_
  go_wp2_with fail
  refine (P1 _ (HL.out.call (Below.refl _ _).drew)).out.mono ?_; rintro e w1 ⟨rfl, hb1⟩
  have y1 := hid (show Below w.heap.size w w1 from (Below.refl _ _).drew.trans hb1)
  have B1 := hid (HB.out.call y1.out)
  clear hb1
  go_wp2_with fail
  refine ⟨⟨B1.out.cell 1, B1.out.cell 2⟩, ?_⟩
  refine held_one (i := 19) (by kernel_rfl) (by rfl) (by rfl) ?_
  go_wp2_with fail
  refine (P2 _ (HL.out.call y1.out)).out.mono ?_; rintro e w2 ⟨rfl, hb2⟩
  have y2 := hid (bnext y1.out hb2)
  have B2 := hid (HB.out.call y2.out)
  have N2 := hid (HN.out.call y2.out); have D2 := hid (HD.out.call y2.out)
  clear hb2
  go_wp2_with fail
  refine ⟨⟨B2.out.cell 1, B2.out.cell 2⟩, ?_⟩
  refine wpAnyH_done (by kernel_rfl) ?_ _
  simp only [Only, ThenL, List.drop_succ_cons, List.drop_zero]
  have d1 : w2.cell? ⟨g, 1, none⟩ = some (.string sk) := B2.out.cell 1
  have d2 : w2.cell? ⟨g, 2, none⟩ = some (.string st) := B2.out.cell 2
  have f1 := B2.out.free 1
  have f2 := B2.out.free 2
  obtain ⟨kk, hkk⟩ : ∃ s, numB (K + K) = s := ⟨_, rfl⟩
  obtain ⟨tt, htt⟩ : ∃ s, numB (T + T) = s := ⟨_, rfl⟩
  rw [hkk, htt]
  have HKK := hid hkk; have HTT := hid htt
  rw [hkk] at P3
  clear hkk htt c1 c2 P1 P2
  go_wp2_with fail
  simp only [Only]
  have b3 : Blk ((w2.setCell ⟨g, 1, none⟩ (.string kk)).setCell ⟨g, 2, none⟩ (.string tt)) g (tossC b kk tt bn bd false 0 u) 261 := by
    have := (B2.out.set 1 (.string kk)).set 2 (.string tt)
    simpa [tossC] using this
  have z3 : Below g w2 ((w2.setCell ⟨g, 1, none⟩ (.string kk)).setCell ⟨g, 2, none⟩ (.string tt)) := (((Below.refl g w2).setCell (Nat.le_refl _) _).setCell (Nat.le_refl _) _)
  obtain ⟨w3, hw3⟩ : ∃ w3, (w2.setCell ⟨g, 1, none⟩ (.string kk)).setCell ⟨g, 2, none⟩ (.string tt) = w3 := ⟨_, rfl⟩
  rw [hw3] at b3 z3 ⊢
  have B3 := hid b3
  have N3 := hid (N2.out.below z3 LN.out); have D3 := hid (D2.out.below z3 LD.out)
  have y3 := hid ((y2.out.mono (Nat.le_of_lt LG.out)).trans z3)
  have L3 := hid ((HL.out.call y2.out).below z3 HG.out)
  have HZ3 := hid z3
  have HW3 := hid hw3
  clear b3 z3 hw3 d1 d2 f1 f2
  have d0 : w3.cell? ⟨g, 0, none⟩ = some (.string b) := B3.out.cell 0
  have d6 : w3.cell? ⟨g, 6, none⟩ = some (.int .i64 u) := B3.out.cell 6
  have h0 : (0 : Int) ≤ (u : Int) := by omega
  have h1 : (u : Int) < (b.size : Int) := by omega
  go_wp2_with fail
  refine held_plain [0, 1, 2, 3, 4, 5, 6, 7, 8, 9, 10] 0 (fun W' => W'.cell? ⟨g, 0, none⟩ = some (.string b) ∧ W'.cell? ⟨g, 6, none⟩ = some (.int .i64 u)) (by kernel_rfl) (by kernel_rfl) (by kernel_rfl) (by kernel_rfl) ⟨d0, d6⟩ ?_
  iterate 11
    refine ⟨_, rfl, ?_⟩
    apply Exists.intro
    refine ⟨.inl ⟨by rfl, ?_⟩, ?_⟩
    · (intro W' hW'
       obtain ⟨q1, q2⟩ := hW'
       go_simp
       try (with_reducible rfl))
    (dsimp only [Act.put]; try simp only [List.setIfInBounds_toArray, List.set_cons_zero, List.set_cons_succ])
  refine wpAnyH_done (by kernel_rfl) ?_ _
  simp only [Only]
  have e1 : ((b[u].toNat : Int) == 49) = decide (b[u] = 49) := by
    rw [Bool.eq_iff_iff, beq_iff_eq, decide_eq_true_iff]
    constructor
    · intro h
      apply UInt8.toNat_inj.1
      simp
      omega
    · intro h
      rw [h]
      rfl
  rw [e1]
  have d1 : w3.cell? ⟨g, 1, none⟩ = some (.string kk) := B3.out.cell 1
  have f1 := B3.out.free 1
  have f6 := B3.out.free 6
  have q6 : IntKind.i64.wrap ((u : Int) + 1) = (u : Int) + 1 := IntWalk.i64_in _ ⟨by omega, by have := HS.out; omega⟩
  clear e1
  by_cases hb : b[u] = 49
  · simp only [hb, decide_true, if_true]
    have HBU := hid hb
    clear hb
    go_wp2_with fail
    refine (P3 _ (L3.out.call (Below.refl _ _).drew)).out.mono ?_; rintro e w4 ⟨rfl, hb4⟩
    have y34 := hid (show Below w3.heap.size w3 w4 from (Below.refl _ _).drew.trans hb4)
    clear hb4
    have lg3 := Blk.lt B3.out
    have B4 := hid (B3.out.call y34.out); have N4 := hid (N3.out.call y34.out); have D4 := hid (D3.out.call y34.out)
    have y4 := hid (y3.out.trans (y34.out.mono (Nat.le_of_lt lg3)))
    have g1 : w4.cell? ⟨g, 1, none⟩ = some (.string kk) := B4.out.cell 1
    have g6 : w4.cell? ⟨g, 6, none⟩ = some (.int .i64 u) := B4.out.cell 6
    have k1 := B4.out.free 1
    have k6 := B4.out.free 6
    clear d0 d1 d6 f1 f6 lg3
    go_wp2_with fail
    go_ret
    have r := (B4.out.set 1 (.string (numB (K + K + 1)))).set 6 (.int .i64 ((u : Int) + 1))
    refine ⟨(y4.out.setCell (Nat.le_refl _) _).setCell (Nat.le_refl _) _, rfl, ?_⟩
    refine ⟨?_, (N4.out.other (by simp; have := LN.out; omega) _).other (by simp; have := LN.out; omega) _, (D4.out.other (by simp; have := LD.out; omega) _).other (by simp; have := LD.out; omega) _, LN.out, LD.out⟩
    rw [HTT.out, show ((u + 1 : Nat) : Int) = (u : Int) + 1 by omega]
    exact r
  · simp only [hb, decide_false, if_false, Nat.add_zero]
    have HBU := hid hb
    clear hb d1 f1
    go_wp2_with fail
    go_ret
    have r := (show Blk w3.drew g (tossC b kk tt bn bd false 0 u) 261 from B3.out).set 6 (.int .i64 ((u : Int) + 1))
    refine ⟨y3.out.drew.setCell (Nat.le_refl _) _, rfl, ?_⟩
    refine ⟨?_, (N3.out).other (by simp; have := LN.out; omega) _, (D3.out).other (by simp; have := LD.out; omega) _, LN.out, LD.out⟩
    rw [HKK.out, HTT.out, show ((u + 1 : Nat) : Int) = (u : Int) + 1 by omega]
    exact r
end Go.Proofs.YtgphopkifomffaaGreatDoor
namespace Go.Proofs.YtgphopkifomffaaGreatDoor
open Go.RowKit Go.Shelf
open Go.Lib (decDigits nDigits)
set_option linter.unusedVariables false
set_option linter.unusedSimpArgs false
def drawV (x : Bool × Nat × Nat) : Value := .agg #[.bool x.1, .int .i64 (x.2.1 : Nat), .int .i64 (x.2.2 : Nat)]
def lookV (g : Nat) : Value := .func (.func 229) #[.pointer (some ⟨g, 0, none⟩)] #[]
def readV (g : Nat) : Value := .func (.func 252) #[.pointer (some ⟨g, 0, none⟩)] #[]
def usedOf (w : World) (g : Nat) : Nat := match w.cell? ⟨g, 6, none⟩ with | some (.int _ u) => u.toNat | _ => 0
def drawM (n g : Nat) (nx : Value) (w : World) : Nat := match nx with
  | .func (.func f) _ _ => 2 * (n - usedOf w g) + (if f = 229 then 2 else 1)
  | _ => 0
def DrawI (g bn bd : Nat) (b : ByteArray) (N D : Nat) (nx : Value) (w : World) : Prop :=
  (∃ K T u, nx = lookV g ∧ Toss w g bn bd b N D K T u ∧ Cell K T u ∧ u ≤ b.size ∧ tossAt N D b.data.toList 0 1 0 = tossAt N D b.data.toList K T u) ∨
  (∃ K T u, nx = readV g ∧ Toss w g bn bd b N D K T u ∧ Cell K T u ∧ u < b.size ∧ sdB N D K T = false ∧ tossAt N D b.data.toList 0 1 0 = tossAt N D b.data.toList K T u) ∨
  (∃ (k t : ByteArray) (x : Bool × Nat × Nat), nx = .nilFunc ∧ Blk w g (tossC b k t bn bd x.1 (x.2.1 : Nat) (x.2.2 : Nat)) 261 ∧ x = tossAt N D b.data.toList 0 1 0)
theorem usedOf_blk {w : World} {g bn bd : Nat} {b k t : ByteArray} {d : Bool} {v : Int} {u : Nat} (h : Blk w g (tossC b k t bn bd d v u) 261) : usedOf w g = u := by
  have h6 : w.cell? ⟨g, 6, none⟩ = some (.int .i64 (u : Int)) := h.cell 6
  unfold usedOf
  rw [h6]
  simp
theorem drawM_look {n g : Nat} {w : World} : drawM n g (lookV g) w = 2 * (n - usedOf w g) + 2 := by simp [drawM, lookV]
theorem drawM_read {n g : Nat} {w : World} : drawM n g (readV g) w = 2 * (n - usedOf w g) + 1 := by simp [drawM, readV]
theorem neq_nil (fn : Fn) (bs cs : Array Value) (W : World) : (binOp BinOp.neq 263 (.func fn bs cs) .nilFunc).run Tryz.prog W = .ok (.bool true) W := by
  kernel_rfl
theorem neq_nil2 (W : World) : (binOp BinOp.neq 263 .nilFunc .nilFunc).run Tryz.prog W = .ok (.bool false) W := by
  kernel_rfl
set_option maxRecDepth 100000 in
set_option maxHeartbeats 2000000 in
theorem c_Draw_ok (w : World) (p b : ByteArray) (hp : p.size ≤ 100000) (hb : b.size ≤ 256) (hc : chkE b = 0) (he : cPE p = 0) (hL : Lay w) :
    Calls Tryz.prog 192 #[.string p, .string b] w fun e w' => e = .returned (.tuple #[drawV (tossAt (bN (cW p)) (bN (qD p)) b.data.toList 0 1 0), .int .i64 0]) ∧ Below w.heap.size w w' := by
  have HP := fun V hV => hid (c_parts V p hp hV)
  rw [he] at HP
  simp only [if_true] at HP
  have HC := fun V => hid (c_checked V b (by omega))
  rw [hc] at HC
  obtain ⟨e1, e2, hN, hD, hle⟩ := cPE_ok he
  obtain ⟨N, hn⟩ : ∃ N, bN (cW p) = N := ⟨_, rfl⟩
  obtain ⟨D, hd⟩ : ∃ D, bN (qD p) = D := ⟨_, rfl⟩
  rw [hn] at e1 hN
  rw [hd] at e2 hD
  rw [e1, e2] at HP
  rw [hn, hd]
  have HN := hid hN; have HD := hid hD; have HL := hid hL; have HB := hid hb
  have z0 := numB_of (s := (⟨#[48]⟩ : ByteArray)) rfl
  clear hn hd e1 e2 hN hD hle hL hc he hp
  obtain ⟨sn, hsn⟩ : ∃ s, numB N = s := ⟨_, rfl⟩
  obtain ⟨sd, hsd⟩ : ∃ s, numB D = s := ⟨_, rfl⟩
  rw [hsn, hsd] at HP
  have HSN := hid hsn; have HSD := hid hsd
  clear hsn hsd z0 hb
  have e27 : ∀ args w, (callFunc 229 args).run Tryz.prog w = .ok (.enter 229 args) w := enters_of Tryz.func229 (by kernel_rfl) rfl
  have e54 : ∀ args w, (callFunc 252 args).run Tryz.prog w = .ok (.enter 252 args) w := enters_of Tryz.func252 (by kernel_rfl) rfl
  go_enter Tryz.func192, Tryz.ntmps192
  go_wp2_with fail
  refine (HP _ (HL.out.call ((Below.refl _ _).alloc (Nat.le_refl _) _))).out.mono ?_; rintro e w1 ⟨rfl, hb1⟩
  have x1 := hid ((Blk.new w #[.bool false, .int .i64 0, .int .i64 0] 53).call hb1)
  have y1 := hid (bnext ((Below.refl w.heap.size w).alloc (Nat.le_refl _) (.cells #[.bool false, .int .i64 0, .int .i64 0] 53)) hb1)
  clear hb1
  go_wp2_with fail
  refine (HC _).out.mono ?_; rintro e w2 ⟨rfl, hb2⟩
  have x2 := hid (x1.out.call hb2)
  have y2 := hid (bnext y1.out hb2)
  clear hb2
  go_wp2_with fail
  refine (c_sides _ _ _).mono ?_; rintro e w3 ⟨rfl, rfl⟩
  go_wp2_with fail
  have hsz2 : w2.heap.size = w2.heap.size := rfl
  obtain ⟨g, hg⟩ : ∃ g, g = w2.heap.size + 1 + 1 := ⟨_, rfl⟩
  obtain ⟨bn, hbn⟩ : ∃ g, g = w2.heap.size := ⟨_, rfl⟩
  obtain ⟨bd, hbd⟩ : ∃ g, g = w2.heap.size + 1 := ⟨_, rfl⟩
  obtain ⟨W0, hW0⟩ : ∃ W0, (((w2.alloc (Obj.cells #[Value.string sn] 22)).alloc (Obj.cells #[Value.string sd] 22)).alloc
      (Obj.cells #[Value.string b, Value.string { data := #[48] }, Value.string { data := #[49] }, Value.func (Fn.func 249) #[] #[Value.pointer (some { block := w2.heap.size, off := 0 }), Value.pointer (some { block := w2.heap.size + 1, off := 0 })], Value.bool false, Value.int IntKind.i64 0, Value.int IntKind.i64 0] 261)) = W0 := ⟨_, rfl⟩
  rw [hW0, ← hg, ← hbd, ← hbn]
  have t0 : Toss W0 g bn bd b N D 0 1 0 := by
    refine ⟨?_, ?_, ?_, by omega, by omega⟩
    · rw [← hW0, hbn, hbd]
      have e0 : numB 0 = ⟨#[48]⟩ := by unfold numB; rw [dec_zero]
      have e1 : numB 1 = ⟨#[49]⟩ := by unfold numB; rw [dec_one]
      rw [e0, e1]
      exact Blk.made _ _ _ (by simp; omega)
    · rw [← hW0, HSN.out, hbn]
      exact ((Blk.new w2 _ _).alloc _).alloc _
    · rw [← hW0, HSD.out, hbd]
      exact (Blk.made _ _ _ (by simp)).alloc _
  have b0 : Below w2.heap.size w2 W0 := by
    rw [← hW0]
    exact (((Below.refl _ _).alloc (Nat.le_refl _) _).alloc (by simp) _).alloc (by simp; omega) _
  have HG := hid hg
  have hLG : LayLt g := by
    have h1 := (HL.out.call y2.out).lt
    exact ⟨by have := h1.1; omega, by have := h1.2; omega⟩
  have HLG := hid hLG
  have T0 := hid t0
  have B0 := hid b0
  clear hW0 hg hbn hbd t0 b0 hsz2 HP HC hLG
  have hq1 := fun (fn : Fn) (bs cs : Array Value) (W : World) => neq_nil fn bs cs W
  have hq2 := fun (W : World) => neq_nil2 W
  go_loopw [10] (fun nx wr => DrawI g bn bd b N D nx wr ∧ Hid (Below w2.heap.size w2 wr)) (fun nx wr => drawM b.size g nx wr)
  case atStart => exact ⟨.inl ⟨0, 1, 0, rfl, T0.out, ⟨rfl, by omega⟩, by omega, rfl⟩, B0.out⟩
  case round =>
    obtain ⟨hI, hB⟩ := hrel
    rcases hI with ⟨K, T, u, rfl, ht, hc, hu, heq⟩ | ⟨K, T, u, rfl, ht, hc, hu, hsb, heq⟩ | ⟨k, t, x, rfl, hbk, hx⟩
    · have HT := hid ht; have HCl := hid hc; have HU := hid hu; have HE := hid heq
      have HM := hid (usedOf_blk ht.blk)
      clear ht hc hu heq
      simp only [lookV]
      go_wp2_with fail
      refine (c_look _ g bn bd b N D K T u HT.out (HCl.out.fits (by have := HU.out; have := HB.out; omega) HN.out HD.out) ((HL.out.call y2.out).call hB.out) (by have := HB.out; omega) HU.out).mono ?_
      rintro e w5 ⟨hb5, hcases⟩
      have B5 := hid (hB.out.trans (hb5.mono (by have := HG.out; omega)))
      clear hb5
      rcases hcases with ⟨h1, rfl, h2⟩ | ⟨h1, h3, rfl, h2⟩ | ⟨h1, h3, rfl, h2⟩
      · have K1 := hid h1; have K2 := hid h2
        clear h1 h2
        go_wp2_with fail
        go_roundw
        case rel => exact ⟨.inr (.inr ⟨_, _, (true, sdV N D K T, u), rfl, K2.out, by rw [HE.out, tossAt_done K1.out]⟩), B5⟩
        case measure => exact (by show drawM b.size g .nilFunc _ < drawM b.size g (lookV g) _; rw [drawM_look]; simp [drawM])
      · have K1 := hid h1; have K2 := hid h2; have K3 := hid h3
        clear h1 h2 h3
        go_wp2_with fail
        go_roundw
        case rel => exact ⟨.inr (.inr ⟨_, _, (false, 0, u), rfl, K2.out.blk, by rw [HE.out, K3.out, ← list_size, tossAt_late K1.out]⟩), B5⟩
        case measure => exact (by show drawM b.size g .nilFunc _ < drawM b.size g (lookV g) _; rw [drawM_look]; simp [drawM])
      · have K1 := hid h1; have K2 := hid h2; have K3 := hid h3
        clear h1 h2 h3
        go_wp2_with fail
        go_roundw
        case rel => exact ⟨.inr (.inl ⟨K, T, u, rfl, K2.out, HCl.out, K3.out, K1.out, HE.out⟩), B5⟩
        case measure => exact (by show drawM b.size g (readV g) _ < drawM b.size g (lookV g) _; rw [drawM_look, drawM_read, HM.out, usedOf_blk K2.out.blk]; omega)
    · have HT := hid ht; have HCl := hid hc; have HU := hid hu; have HE := hid heq; have HSB := hid hsb
      have HM := hid (usedOf_blk ht.blk)
      clear ht hc hu heq hsb
      simp only [readV]
      go_wp2_with fail
      refine (c_read _ g bn bd b N D K T u HT.out (HCl.out.fits (by have := HU.out; have := HB.out; omega) HN.out HD.out) ((HL.out.call y2.out).call hB.out) (by have := HB.out; omega) HU.out HLG.out).mono ?_
      rintro e w5 ⟨hb5, rfl, h2⟩
      have B5 := hid (hB.out.trans (hb5.mono (by have := HG.out; omega)))
      have K2 := hid h2
      clear hb5 h2
      go_wp2_with fail
      go_roundw
      case rel => exact ⟨.inl ⟨_, _, u + 1, rfl, K2.out, HCl.out.next (by split <;> omega), HU.out, by
        rw [HE.out]
        exact tossAt_next HSB.out (by rw [list_size]; exact HU.out)⟩, B5⟩
      case measure => exact (by show drawM b.size g (lookV g) _ < drawM b.size g (readV g) _; rw [drawM_look, drawM_read, HM.out, usedOf_blk K2.out.blk]; have := HU.out; omega)
    · have HK := hid hbk; have HX := hid hx
      have x3 := hid (x2.out.call hB.out)
      have d4 : wr.cell? ⟨g, 4, none⟩ = some (.bool x.1) := hbk.cell 4
      have d5 : wr.cell? ⟨g, 5, none⟩ = some (.int .i64 (x.2.1 : Nat)) := hbk.cell 5
      have d6 : wr.cell? ⟨g, 6, none⟩ = some (.int .i64 (x.2.2 : Nat)) := hbk.cell 6
      have r0 : wr.cell? ⟨w.heap.size, 0, none⟩ = some (.bool false) := x3.out.cell 0
      have r1 : wr.cell? ⟨w.heap.size, 1, none⟩ = some (.int .i64 0) := x3.out.cell 1
      have r2 : wr.cell? ⟨w.heap.size, 2, none⟩ = some (.int .i64 0) := x3.out.cell 2
      have f0 := x3.out.free 0
      have f1 := x3.out.free 1
      have f2 := x3.out.free 2
      clear hbk hx
      go_wp2_with fail
      have s3 := ((x3.out.set 0 (.bool x.1)).set 1 (.int .i64 (x.2.1 : Nat))).set 2 (.int .i64 (x.2.2 : Nat))
      have k0 := s3.cell 0
      have k1 := s3.cell 1
      have k2 := s3.cell 2
      simp at k0 k1 k2
      refine bodyPost_ret (v := .tuple #[.agg #[.bool x.1, .int .i64 (x.2.1 : Nat), .int .i64 (x.2.2 : Nat)], .int .i64 0]) (by simp [results, Tryz.results192, go_sem, k0, k1, k2]) rfl ⟨by rw [← HX.out]; rfl, ?_⟩
      exact (((y2.out.trans (hB.out.mono y2.out.size)).setCell (Nat.le_refl _) _).setCell (Nat.le_refl _) _).setCell (Nat.le_refl _) _
end Go.Proofs.YtgphopkifomffaaGreatDoor
namespace Go.Proofs.YtgphopkifomffaaGreatDoor
open Go.RowKit Go.Shelf
open Go.Lib (decDigits nDigits)
set_option linter.unusedVariables false
set_option linter.unusedSimpArgs false
def gE (a b : ByteArray) : Int := if gPE a ≠ 0 then gPE a else chkE b
set_option maxRecDepth 100000 in
set_option maxHeartbeats 1000000 in
theorem g_check (w : World) (a b : ByteArray) (ha : a.size ≤ 100000) (hb : b.size ≤ 100000) (hL : Lay w) :
    Calls Tryz.prog 90 #[.string a, .string b] w fun e w' => e = .returned (.int .i64 (gE a b)) ∧ Below w.heap.size w w' := by
  have HR := hid (g_ratio w a ha hL)
  have HC := fun V => hid (b_Check V b (by omega))
  obtain ⟨s1, hs1⟩ : ∃ s, (if gPE a = 0 then cW a else ⟨#[]⟩) = s := ⟨_, rfl⟩
  obtain ⟨s2, hs2⟩ : ∃ s, (if gPE a = 0 then qD a else ⟨#[]⟩) = s := ⟨_, rfl⟩
  rw [hs1, hs2] at HR
  clear hs1 hs2
  by_cases h1 : gPE a = 0
  · have e1 : gE a b = chkE b := by rw [gE, if_neg (fun h => h h1)]
    rw [e1]
    rw [h1] at HR
    by_cases h2 : bitB b = true
    · have e2 : bitE b = 0 := if_pos h2
      rw [e2] at HC
      by_cases h3 : 256 < b.size
      · have e3 : chkE b = 4 := by rw [chkE, if_pos h2, if_pos h3]
        have q0 : decide ((256 : Int) < (b.size : Int)) = true := by simp; omega
        rw [e3]
        clear h1 h2 h3 e1 e2 e3 hL
        go_enter Tryz.func90, Tryz.ntmps90
        go_wp2_with fail
        refine HR.out.mono ?_; rintro e w1 ⟨rfl, hb1⟩
        have y1 := hid hb1; clear hb1
        go_wp2_with fail
        refine (HC _).out.mono ?_; rintro e w2 ⟨rfl, hb2⟩
        have y2 := hid (bnext y1.out hb2); clear hb2
        go_wp2_with fail
        go_ret
        exact ⟨rfl, y2.out⟩
      · have e3 : chkE b = 0 := by rw [chkE, if_pos h2, if_neg h3]
        have q0 : decide ((256 : Int) < (b.size : Int)) = false := by simp; omega
        rw [e3]
        clear h1 h2 h3 e1 e2 e3 hL
        go_enter Tryz.func90, Tryz.ntmps90
        go_wp2_with fail
        refine HR.out.mono ?_; rintro e w1 ⟨rfl, hb1⟩
        have y1 := hid hb1; clear hb1
        go_wp2_with fail
        refine (HC _).out.mono ?_; rintro e w2 ⟨rfl, hb2⟩
        have y2 := hid (bnext y1.out hb2); clear hb2
        go_wp2_with fail
        go_ret
        exact ⟨rfl, y2.out⟩
    · have e2 : bitE b = 3 := if_neg h2
      have e3 : chkE b = 3 := if_neg h2
      rw [e2] at HC
      rw [e3]
      clear h1 h2 e1 e2 e3 hL
      go_enter Tryz.func90, Tryz.ntmps90
      go_wp2_with fail
      refine HR.out.mono ?_; rintro e w1 ⟨rfl, hb1⟩
      have y1 := hid hb1; clear hb1
      go_wp2_with fail
      refine (HC _).out.mono ?_; rintro e w2 ⟨rfl, hb2⟩
      have y2 := hid (bnext y1.out hb2); clear hb2
      go_wp2_with fail
      go_ret
      exact ⟨rfl, y2.out⟩
  · have e1 : gE a b = gPE a := by rw [gE, if_pos h1]
    rw [e1]
    obtain ⟨x, hx⟩ : ∃ x, gPE a = x := ⟨_, rfl⟩
    rw [hx] at HR h1 ⊢
    have q0 : (x == 0) = false := by simpa using h1
    have q1 : (x != 0) = true := by simpa using h1
    clear h1 e1 hx hL
    go_enter Tryz.func90, Tryz.ntmps90
    go_wp2_with fail
    refine HR.out.mono ?_; rintro e w1 ⟨rfl, hb1⟩
    have y1 := hid hb1; clear hb1
    go_wp2_with fail
    go_ret
    exact ⟨rfl, y1.out⟩
set_option maxRecDepth 100000 in
set_option maxHeartbeats 1000000 in
theorem g_coins (w : World) (a b : ByteArray) :
    Calls Tryz.prog 136 #[.string a, .string b] w fun e w' => e = .returned (.func (.func 191) #[] #[.pointer (some ⟨w.heap.size, 0, none⟩), .pointer (some ⟨w.heap.size + 1, 0, none⟩)]) ∧ w' = (w.alloc (.cells #[.string a] 22)).alloc (.cells #[.string b] 34) := by
  go_enter Tryz.func136, Tryz.ntmps136
  go_wp2_with fail
  go_ret
  exact ⟨rfl, rfl⟩
end Go.Proofs.YtgphopkifomffaaGreatDoor
namespace Go.Proofs.YtgphopkifomffaaGreatDoor
open Go.RowKit
def FeedsB {α : Type} (M n : Nat) (P : Program) (g : Nat) (lb : Array Value) (encs : α → Array Value) (Kp : World → World → Prop) (Ok : List α → α → Prop) (S Sp : List α → Prop) (w : World) : Prop :=
  ∀ (l : Nat) (J Jx : List α → World → Prop) (W : World), Below w.heap.size w W → AbidesFrom W.heap.size J → AbidesFrom W.heap.size Jx →
    (∀ pre x W1, Ok pre x → J pre W1 → YieldAt Fence.wide (n - 1) P l (encs x) W1 fun e W2 =>
      (e = .returned (.bool true) ∧ J (pre ++ [x]) W2 ∧ Kp W1 W2) ∨ (e = .returned (.bool false) ∧ Jx (pre ++ [x]) W2)) →
    (∀ pre W1, J pre W1 → pre.length ≤ M) →
    J [] W →
    CallsIn Fence.wide n P g (#[.func (.yield l) #[] #[]] ++ lb) W fun e W2 => (∃ v, e = .returned v) ∧ ((∃ xs, S xs ∧ J xs W2) ∨ (∃ pre, Sp pre ∧ Jx pre W2))
theorem range_okB {α : Type} {P : Program} {n : Nat} {g : Operand} {ps : Array Tmp} {assign body : Code} {Q : Exit → Act → World → Prop} {a : Act} {w : World} (h1 : 1 ≤ n)
    {gf : Nat} {lb : Array Value} (hg : a.eval g = .func (.func gf) #[] lb) (eg : ∀ args w, (callFunc gf args).run P w = .ok (.enter gf args) w)
    {encs : α → Array Value} {Kp : World → World → Prop} {Ok : List α → α → Prop} {S Sp : List α → Prop} {w0 : World} {M : Nat} (hseq : FeedsB M (n - 1) P gf lb encs Kp Ok S Sp w0)
    (hKt : ∀ {A B C : World}, Kp A B → Kp B C → Kp A C) (hKb : ∀ (W : World) (l : Nat) (o o2 : Obj), w.heap.size ≤ l → W.heap[l]? = some o → o.isCells = false → o.isWalk = false → Kp W (W.putObj l o2)) (hb0 : Below w0.heap.size w0 w) (hps : ∀ x, (encs x).size = ps.size)
    (I : List α → World → Prop) (Ix : Code → List α → World → Prop) (hI : OwnFrom w.heap.size I) (hIx : ∀ c, OwnFrom w.heap.size (Ix c)) (h0 : I [] w) (hM : ∀ pre W, I pre W → pre.length ≤ M) (a1 : α → Act)
    (hassign : ∀ (l : Nat) (x : α) (W : World) (K : Act → World → Prop), K (a1 x) W →
      assign.wpIn (Fence.wide.inRound l) (n - 1 - 1) P (Exit.then K (fun _ _ _ => False)) { tmps := (ps.zip (encs x)).foldl (fun t (p, v) => t.setIfInBounds p v) a.tmps, defers := [] } W)
    (hbody : ∀ (l : Nat) (pre : List α) (x : α) (W : World), Ok pre x → I pre W → body.wpIn (Fence.wide.inRound l) (n - 1 - 1) P (ownPostG w.heap.size Kp I Ix (pre ++ [x]) W) (a1 x) W)
    (hdone : ∀ (D : Nat) (xs : List α) (W : World), w.heap.size ≤ D → S xs → I xs W → W.heap[D]? = some (.deferred (some [])) → Q .normal { a with defers := { target := .collected D, args := #[] } :: a.defers } W)
    (hstop : ∀ (D : Nat) (c : Code) (pre : List α) (W : World), w.heap.size ≤ D → Sp pre → Ix c pre W → W.heap[D]? = some (.deferred (some [])) → c.wpIn Fence.wide n P Q { a with defers := { target := .collected D, args := #[] } :: a.defers } W) :
    (Code.rangeFunc g ps assign body).wpIn Fence.wide n P Q a w := by
  refine wpIn_rangeFunc fun fn hfn => ?_
  obtain ⟨R, hR⟩ : ∃ R : LoopState → Option Code → Loop, ∀ s p, R s p = { state := s, pending := p, fn, tmps := a.tmps, params := ps, assign, body, defers := w.heap.size } := ⟨_, fun _ _ => rfl⟩
  have hs : ∀ s p, (R s p).state = s := fun s p => by rw [hR]
  obtain ⟨W1, e1⟩ : ∃ W1, W1 = (w.alloc (.deferred (some []))).alloc (.loop (R .ready none)) := ⟨_, rfl⟩
  have z1 : w.heap.size ≤ W1.heap.size := by rw [e1]; simp; omega
  have k1 : Kept w.heap.size (R .ready none) W1 := by
    rw [e1]
    refine ⟨?_, (Below.heap_alloc _ _ _ (by simp)).trans (World.alloc_heap_new w _)⟩
    have := World.alloc_heap_new (w.alloc (.deferred (some []))) (.loop (R .ready none))
    rwa [World.size_alloc] at this
  have i1 : I [] W1 := by rw [e1]; exact hI.alloc _ (hI.alloc _ h0)
  have b1 : Below w0.heap.size w0 W1 := by
    have : Below w.heap.size w W1 := by rw [e1]; exact ((Below.refl _ w).alloc (Nat.le_refl _) _).alloc (by simp) _
    exact hb0.trans (this.mono hb0.size)
  refine ⟨w.heap.size + 1, [{ target := .collected w.heap.size, args := #[] }], W1, { target := .fn (.func gf) lb, args := #[.func (.yield (w.heap.size + 1)) #[] #[]] }, W1, gf, #[.func (.yield (w.heap.size + 1)) #[] #[]] ++ lb, W1, ?_, ?_, fun f hf => trivial, ?_, fun _ => h1, ?_⟩
  · have := run_enterLoop_outer (P := P) (w := w) fn a.tmps ps assign body
    rw [e1, hR]; exact this
  · simp only [resolve, hg]
    simp [go_sem]
  · simp [invoke, go_sem, eg]
  · refine (hseq (w.heap.size + 1) (fun pre W => I pre W ∧ Kept w.heap.size (R .ready none) W) (fun pre W => ∃ c, Ix c pre W ∧ Kept w.heap.size (R .done (some c)) W) W1 b1
      (fun s A B row hs hg2 hr => ⟨hI s A B row hs.1 hg2 (fun k e => ?_), hs.2.cells hg2 (fun k e => (hr k e).2)⟩)
      (fun s A B row hs hg2 hr => ?_) (fun pre x W hok hJ => ?_) (fun pre W h => hM pre W h.1) ⟨i1, k1⟩).mono ?_
    · obtain ⟨h2, o, h3, h4⟩ := hr k e
      exact ⟨Nat.le_trans z1 h2, o, h3, Obj.not_cells_of_walk h4⟩
    · obtain ⟨c, hc, hk⟩ := hs
      refine ⟨c, hIx c s A B row hc hg2 (fun k e => ?_), hk.cells hg2 (fun k e => (hr k e).2)⟩
      obtain ⟨h2, o, h3, h4⟩ := hr k e
      exact ⟨Nat.le_trans z1 h2, o, h3, Obj.not_cells_of_walk h4⟩
    · obtain ⟨hi, hk⟩ := hJ
      have hy := run_yield (P := P) (args := encs x) hk.loop (by rw [hR]; exact hps x)
      have kb := hk.put (R .busy none)
      have bg := run_beginRound (P := P) hk.loop (hs _ _)
      rw [show ({ R .ready none with state := .busy } : Loop) = R .busy none by rw [hR, hR]] at bg
      have kk : Kp W (W.putObj (w.heap.size + 1) (.loop (R .busy none))) := hKb _ _ _ _ (by omega) hk.loop rfl rfl
      rw [hR] at hy
      refine ⟨fn, _, assign, body, hy, roundIn_of_wpIn hfn (hassign _ x W _ ⟨_, bg, ?_⟩)⟩
      refine wpIn_mono (hbody _ pre x _ hok (own_put hI hk (Nat.le_refl _) hi _)) ?_
      have fin : ∀ (j : Option Code) (W3 : World), Kept w.heap.size (R .busy none) W3 → (Instr.endRound (w.heap.size + 1) j).run P W3 = .ok (.bool j.isNone) (W3.putObj (w.heap.size + 1) (.loop (R (if j.isNone then .ready else .done) j))) := fun j W3 h3 => by
        have := run_endRound (P := P) j h3.loop
        rw [this, hR, hR]
      rintro e a3 W3 hp
      cases e with
      | normal =>
        obtain ⟨p1, p2, p3⟩ := hp
        have k3 := kb.from p1 (Nat.le_refl _)
        exact ⟨_, _, fin none W3 k3, .inl ⟨rfl, ⟨own_put hI k3 (Nat.le_refl _) p3 _, k3.put _⟩, hKt (hKt kk p2) (hKb _ _ _ _ (by omega) k3.loop rfl rfl)⟩⟩
      | ret =>
        have k3 := kb.from hp.1 (Nat.le_refl _)
        exact ⟨_, _, fin (some .ret) W3 k3, .inr ⟨rfl, .ret, own_put (hIx _) k3 (Nat.le_refl _) hp.2 _, k3.put _⟩⟩
      | exit id =>
        have k3 := kb.from hp.1 (Nat.le_refl _)
        exact ⟨_, _, fin (some (.exit id)) W3 k3, .inr ⟨rfl, .exit id, own_put (hIx _) k3 (Nat.le_refl _) hp.2 _, k3.put _⟩⟩
      | goto t =>
        have k3 := kb.from hp.1 (Nat.le_refl _)
        exact ⟨_, _, fin (some (.goto t)) W3 k3, .inr ⟨rfl, .goto t, own_put (hIx _) k3 (Nat.le_refl _) hp.2 _, k3.put _⟩⟩
      | panic ch => exact hp.elim
      | outgrown => exact hp.elim
    · have en : ∀ {s p W2}, Kept w.heap.size (R s p) W2 → s ≠ .busy → (Instr.endLoop (w.heap.size + 1)).run P W2 = .ok p (W2.putObj (w.heap.size + 1) (.loop (R .exhausted p))) := fun {s p W2} h2 hne => by
        have := run_endLoop (P := P) h2.loop (by rw [hs]; exact hne)
        rw [this, hR, hR]
      rintro e W2 ⟨⟨v, rfl⟩, ⟨xs, hS, hi, hk⟩ | ⟨pre, hSp, c, hi, hk⟩⟩
      · exact ⟨none, _, en hk (by simp), hdone _ xs _ (Nat.le_refl _) hS (own_put hI hk (Nat.le_refl _) hi _) (hk.put (R .exhausted none)).calls⟩
      · exact ⟨some c, _, en hk (by simp), hstop _ c pre _ (Nat.le_refl _) hSp (own_put (hIx c) hk (Nat.le_refl _) hi _) (hk.put (R .exhausted (some c))).calls⟩
end Go.Proofs.YtgphopkifomffaaGreatDoor
