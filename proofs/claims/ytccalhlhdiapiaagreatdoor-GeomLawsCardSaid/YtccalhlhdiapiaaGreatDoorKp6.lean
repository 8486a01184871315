/- Texts that the proof rests on, merged: Cv3, Cv4, Tot2, Cv5, Cv6, Tot3, Cv9, Cr0, Held, Lasts, Held2, Er2, Last2. -/
import Derived.Test.YtccalhlhdiapiaaGreatDoorKp5
namespace Go.Proofs.YtccalhlhdiapiaaGreatDoor
open Go.RowKit
set_option linter.unusedVariables false
theorem s1_lateC {N D : Nat} {l : List UInt8} {p n : Nat} (hd : (coinF N D l p).1 = false) : s1 N D l p n = none := by
  unfold s1; rw [sr_late (Nat.le_refl 1) hd]
theorem s1_moreC {N D : Nat} (h : N < D) {l : List UInt8} {p n : Nat} (hp : p ≤ l.length) (hd : (coinF N D l p).1 = true) (hv : (coinF N D l p).2.1 = 1) : s1 N D l p n = s1 N D l (p + (coinF N D l p).2.2) (n + 1) := by
  unfold s1; rw [sr_one h (Nat.le_refl 1) hp hd hv]
theorem s1_stopC {N D : Nat} {l : List UInt8} {p n : Nat} (hd : (coinF N D l p).1 = true) (hv : ¬ (coinF N D l p).2.1 = 1) : s1 N D l p n = some (n, p + (coinF N D l p).2.2) := by
  unfold s1; rw [sr_stop hd hv]; rfl
theorem s1_shift {N D : Nat} (h : N < D) {l : List UInt8} : ∀ (f p n : Nat), p ≤ l.length → l.length - p ≤ f → s1 N D l p (n + 1) = (s1 N D l p n).map (fun x => (x.1 + 1, x.2)) := by
  intro f
  induction f with
  | zero =>
    intro p n hp hf
    cases hd : (coinF N D l p).1
    · rw [s1_lateC hd, s1_lateC hd]; rfl
    · by_cases hv : (coinF N D l p).2.1 = 1
      · have := coinF_one h hd hv
        have := coinF_le (N := N) (D := D) hp
        omega
      · rw [s1_stopC hd hv, s1_stopC hd hv]; rfl
  | succ f ih =>
    intro p n hp hf
    cases hd : (coinF N D l p).1
    · rw [s1_lateC hd, s1_lateC hd]; rfl
    · by_cases hv : (coinF N D l p).2.1 = 1
      · have := coinF_one h hd hv
        have hle := coinF_le (N := N) (D := D) hp
        rw [s1_moreC h hp hd hv, s1_moreC h hp hd hv, ih _ (n + 1) hle (by omega)]
      · rw [s1_stopC hd hv, s1_stopC hd hv]; rfl
def oneP (N D i : Nat) (l : List UInt8) : Bool := match s1 N D l 0 0 with | none => false | some (x, _) => decide (x = i)
def twoP (N D i k : Nat) (l : List UInt8) : Bool := match s1 N D l 0 0 with | none => false | some (x, p) => decide (x = i) && oneP N D k (l.drop p)
theorem s1_coin {N D : Nat} (h : N < D) (l : List UInt8) : s1 N D l 0 0 = if (toss N D 0 1 l).1 = true then (if (toss N D 0 1 l).2.1 = 1 then (s1 N D (l.drop (toss N D 0 1 l).2.2) 0 0).map (fun x => (x.1 + 1, (toss N D 0 1 l).2.2 + x.2)) else some (0, (toss N D 0 1 l).2.2)) else none := by
  have e := coinF_eq N D l 0
  rw [List.drop_zero] at e
  cases hd : (toss N D 0 1 l).1
  · rw [s1_lateC (by rw [e]; exact hd)]; rfl
  · rw [if_pos rfl]
    by_cases hv : (toss N D 0 1 l).2.1 = 1
    · have hle := coinF_le (N := N) (D := D) (l := l) (p := 0) (Nat.zero_le _)
      rw [e, Nat.zero_add] at hle
      rw [if_pos hv, s1_moreC h (Nat.zero_le _) (by rw [e]; exact hd) (by rw [e]; exact hv), e, s1_shift h l.length _ _ (by omega) (by omega)]
      have := s1_drop h (l := l) (a := (toss N D 0 1 l).2.2) (by omega) l.length 0 0 (by omega) (by omega)
      rw [Nat.add_zero] at this
      rw [Nat.zero_add, this, Option.map_map]
      rfl
    · rw [if_neg hv, s1_stopC (by rw [e]; exact hd) (by rw [e]; exact hv), e, Nat.zero_add]
theorem oneP_coin {N D : Nat} (h : N < D) (i : Nat) (l : List UInt8) : oneP N D i l = coinP N D 0 1 (match i with | 0 => fun _ => false | i + 1 => oneP N D i) (fun _ => decide (i = 0)) l := by
  unfold coinP
  rw [oneP, s1_coin h]
  cases hd : (toss N D 0 1 l).1
  · rfl
  · rw [if_pos rfl, Bool.true_and]
    by_cases hv : (toss N D 0 1 l).2.1 = 1
    · rw [if_pos hv, if_pos hv]
      cases i with
      | zero =>
        cases s1 N D (l.drop (toss N D 0 1 l).2.2) 0 0 with
        | none => rfl
        | some x => simp
      | succ i =>
        show _ = oneP N D i (l.drop (toss N D 0 1 l).2.2)
        rw [oneP]
        cases s1 N D (l.drop (toss N D 0 1 l).2.2) 0 0 with
        | none => rfl
        | some x => simp
    · rw [if_neg hv, if_neg hv]
      simp only [eq_comm]
theorem twoP_coin {N D : Nat} (h : N < D) (i k : Nat) (l : List UInt8) : twoP N D i k l = coinP N D 0 1 (match i with | 0 => fun _ => false | i + 1 => twoP N D i k) (fun r => decide (i = 0) && oneP N D k r) l := by
  unfold coinP
  rw [twoP, s1_coin h]
  cases hd : (toss N D 0 1 l).1
  · rfl
  · rw [if_pos rfl, Bool.true_and]
    by_cases hv : (toss N D 0 1 l).2.1 = 1
    · rw [if_pos hv, if_pos hv]
      cases i with
      | zero =>
        cases s1 N D (l.drop (toss N D 0 1 l).2.2) 0 0 with
        | none => rfl
        | some x => simp
      | succ i =>
        show _ = twoP N D i k (l.drop (toss N D 0 1 l).2.2)
        rw [twoP]
        cases s1 N D (l.drop (toss N D 0 1 l).2.2) 0 0 with
        | none => rfl
        | some x => simp [List.drop_drop]
    · rw [if_neg hv, if_neg hv]
      simp only [eq_comm]
def opn (N D : Nat) : Nat → Nat → Nat
  | 0 => dlt
  | i + 1 => cvo (chi (oneJ N D)) (opn N D i)
def edn (N D i : Nat) : Nat → Nat := cvo (chi (zeroJ N D)) (opn N D i)
theorem cvo_zero (f : Nat → Nat) (n : Nat) : cvo f (fun _ => 0) n = 0 := by
  unfold cvo
  rw [sumN_congr (d := fun _ => 0) (fun i _ => Nat.mul_zero _)]
  exact sumN_zero _
theorem cvo_swap (f g h : Nat → Nat) (n : Nat) : cvo f (cvo g h) n = cvo g (cvo f h) n := by
  rw [← cvo_assoc, ← cvo_assoc]
  exact cvo_congr (fun s _ => cvo_comm f g s) fun _ _ => rfl
theorem edn_zero (N D m : Nat) : edn N D 0 m = chi (zeroJ N D) m := by
  unfold edn opn
  rw [cvo_comm, cvo_dlt]
theorem edn_succ (N D i m : Nat) : edn N D (i + 1) m = cvo (chi (oneJ N D)) (edn N D i) m := by
  unfold edn
  rw [opn]
  exact cvo_swap _ _ _ _
theorem cw_oneP {N D : Nat} (h : N < D) : ∀ i n, cw n (oneP N D i) = cvo (edn N D i) pw2 n
  | 0, n => by
    rw [cw_congr (Q := coinP N D 0 1 (fun _ => false) (fun _ => true)) (fun l _ => oneP_coin h 0 l), cw_first h, cvo_congr (f' := chi (oneJ N D)) (g' := fun _ => 0) (fun _ _ => rfl) (fun m _ => cw_false m), cvo_zero, Nat.zero_add]
    exact cvo_congr (fun s _ => (edn_zero N D s).symm) fun m _ => cw_true m
  | i + 1, n => by
    rw [cw_congr (Q := coinP N D 0 1 (oneP N D i) (fun _ => false)) (fun l _ => oneP_coin h (i + 1) l), cw_first h, cvo_congr (f := chi (zeroJ N D)) (f' := chi (zeroJ N D)) (g' := fun _ => 0) (fun _ _ => rfl) (fun m _ => cw_false m), cvo_zero, Nat.add_zero]
    rw [cvo_congr (f' := chi (oneJ N D)) (g' := cvo (edn N D i) pw2) (fun _ _ => rfl) (fun m _ => cw_oneP h i m), ← cvo_assoc]
    exact cvo_congr (fun s _ => (edn_succ N D i s).symm) fun _ _ => rfl
theorem cw_twoP {N D : Nat} (h : N < D) (k : Nat) : ∀ i n, cw n (twoP N D i k) = cvo (edn N D i) (cvo (edn N D k) pw2) n
  | 0, n => by
    rw [cw_congr (Q := coinP N D 0 1 (fun _ => false) (oneP N D k)) (fun l _ => by rw [twoP_coin h 0 k l]; rfl), cw_first h, cvo_congr (f' := chi (oneJ N D)) (g' := fun _ => 0) (fun _ _ => rfl) (fun m _ => cw_false m), cvo_zero, Nat.zero_add]
    exact cvo_congr (fun s _ => (edn_zero N D s).symm) fun m _ => cw_oneP h k m
  | i + 1, n => by
    rw [cw_congr (Q := coinP N D 0 1 (twoP N D i k) (fun _ => false)) (fun l _ => by rw [twoP_coin h (i + 1) k l]; rfl), cw_first h, cvo_congr (f := chi (zeroJ N D)) (f' := chi (zeroJ N D)) (g' := fun _ => 0) (fun _ _ => rfl) (fun m _ => cw_false m), cvo_zero, Nat.add_zero]
    rw [cvo_congr (f' := chi (oneJ N D)) (g' := cvo (edn N D i) (cvo (edn N D k) pw2)) (fun _ _ => rfl) (fun m _ => cw_twoP h k i m), ← cvo_assoc]
    exact cvo_congr (fun s _ => (edn_succ N D i s).symm) fun _ _ => rfl
end Go.Proofs.YtccalhlhdiapiaaGreatDoor
namespace Go.Proofs.YtccalhlhdiapiaaGreatDoor
open Go.RowKit
set_option linter.unusedVariables false
def valT (N D : Nat) (two : Bool) (l : List UInt8) : Option Int := match s1 N D l 0 0 with
  | none => none
  | some (x, p) => if two = true then (match s1 N D (l.drop p) 0 0 with | none => none | some (y, _) => some ((x : Int) - (y : Int))) else some (x : Int)
def gV (N D : Nat) (two : Bool) (n : Nat) (v : Int) : Nat := cw n fun l => decide (valT N D two l = some v)
def gL (N D : Nat) (two : Bool) (n : Nat) : Nat := cw n fun l => decide (valT N D two l = none)
theorem s1_bd {N D : Nat} (h : N < D) {l : List UInt8} {x p : Nat} (hs : s1 N D l 0 0 = some (x, p)) : p ≤ l.length ∧ x ≤ l.length := by
  have := s1_le h l.length 0 0 x p (Nat.zero_le _) (by omega) hs
  omega
theorem valT_bd {N D : Nat} (h : N < D) {two : Bool} {l : List UInt8} {v : Int} (hv : valT N D two l = some v) : -(l.length : Int) ≤ v ∧ v ≤ l.length := by
  unfold valT at hv
  cases hs : s1 N D l 0 0 with
  | none => rw [hs] at hv; cases hv
  | some xp =>
    obtain ⟨x, p⟩ := xp
    obtain ⟨b1, b2⟩ := s1_bd h hs
    rw [hs] at hv
    cases two
    · simp at hv; omega
    · simp only [if_true] at hv
      cases hs2 : s1 N D (l.drop p) 0 0 with
      | none => rw [hs2] at hv; cases hv
      | some yq =>
        obtain ⟨y, q⟩ := yq
        obtain ⟨b3, b4⟩ := s1_bd h hs2
        rw [hs2] at hv
        rw [List.length_drop] at b4
        simp at hv; omega
theorem cw_none {n : Nat} {P : List UInt8 → Bool} (h : ∀ l, l.length = n → P l = false) : cw n P = 0 := by
  rw [cw_congr (Q := fun _ => false) h, cw_false]
theorem gV_out {N D : Nat} (h : N < D) {two : Bool} {n : Nat} {v : Int} (hv : v < -(n : Int) ∨ (n : Int) < v) : gV N D two n v = 0 := by
  refine cw_none fun l hl => decide_eq_false fun e => ?_
  have := valT_bd h e
  omega
theorem gV_one (N D n : Nat) (v : Int) : gV N D false n v = if 0 ≤ v then cw n (oneP N D v.toNat) else 0 := by
  unfold gV
  split
  · rename_i h0
    refine cw_congr fun l hl => ?_
    unfold valT oneP
    cases s1 N D l 0 0 with
    | none => rfl
    | some xp =>
      obtain ⟨x, p⟩ := xp
      simp only [Bool.false_eq_true, if_false]
      rw [decide_eq_decide, Option.some.injEq]
      omega
  · rename_i h0
    refine cw_none fun l hl => decide_eq_false fun e => ?_
    unfold valT at e
    cases hs : s1 N D l 0 0 with
    | none => rw [hs] at e; cases e
    | some xp => rw [hs] at e; simp at e; omega
theorem countP_pairs {α : Type} (g : α → Option (Nat × Nat)) (Q : Nat → Nat → Bool) (M : Nat) : ∀ L : List α, (∀ x ∈ L, ∀ i k, g x = some (i, k) → i < M ∧ k < M) →
    L.countP (fun x => match g x with | none => false | some p => Q p.1 p.2) = sumN (fun i => sumN (fun k => if Q i k = true then L.countP (fun x => decide (g x = some (i, k))) else 0) M) M
  | [], _ => by
    have h2 : ∀ i, sumN (fun k => if Q i k = true then ([] : List α).countP (fun x => decide (g x = some (i, k))) else 0) M = 0 := fun i => by
      rw [sumN_congr (d := fun _ => 0) (fun k _ => by simp), sumN_zero]
    rw [sumN_congr (d := fun _ => 0) (fun i _ => h2 i), sumN_zero]; rfl
  | x :: r, h => by
    have ih := countP_pairs g Q M r fun y hy => h y (List.mem_cons_of_mem _ hy)
    have e : ∀ i, sumN (fun k => if Q i k = true then (x :: r).countP (fun x => decide (g x = some (i, k))) else 0) M = sumN (fun k => if Q i k = true then r.countP (fun x => decide (g x = some (i, k))) else 0) M + sumN (fun k => if Q i k = true ∧ g x = some (i, k) then 1 else 0) M := fun i => by
      rw [← sumN_add]
      refine sumN_congr fun k _ => ?_
      rw [List.countP_cons]
      by_cases h1 : Q i k = true
      · rw [if_pos h1, if_pos h1]
        congr 1
        simp [h1]
      · rw [if_neg h1, if_neg h1, if_neg (fun hh => h1 hh.1)]
    rw [List.countP_cons, ih, sumN_congr (fun i _ => e i), sumN_add]
    congr 1
    cases hg : g x with
    | none =>
      rw [sumN_congr (d := fun _ => 0) (fun i _ => by rw [sumN_congr (d := fun _ => 0) (fun k _ => by simp), sumN_zero]), sumN_zero]
      simp
    | some p =>
      obtain ⟨a, b⟩ := p
      obtain ⟨ha, hb⟩ := h x (List.mem_cons_self ..) a b hg
      by_cases hq : Q a b = true
      · have e2 : ∀ i, sumN (fun k => if Q i k = true ∧ some (a, b) = some (i, k) then 1 else 0) M = if a = i then 1 else 0 := fun i => by
          by_cases h1 : a = i
          · subst h1
            rw [if_pos rfl, sumN_congr (d := fun k => if b = k then 1 else 0) (fun k _ => by
              by_cases h2 : b = k
              · subst h2; simp [hq]
              · rw [if_neg h2, if_neg (by simp; exact fun _ => h2)])]
            rw [sumN_one, if_pos hb]
          · rw [if_neg h1, sumN_congr (d := fun _ => 0) (fun k _ => if_neg (by simp; exact fun _ hh => absurd hh h1)), sumN_zero]
        rw [sumN_congr (fun i _ => e2 i), sumN_one, if_pos ha]
        simp [hq]
      · rw [sumN_congr (d := fun _ => 0) (fun i _ => by rw [sumN_congr (d := fun _ => 0) (fun k _ => if_neg (by rintro ⟨h1, h2⟩; simp at h2; obtain ⟨rfl, rfl⟩ := h2; exact hq h1)), sumN_zero]), sumN_zero]
        simp [hq]
def twoG (N D : Nat) (l : List UInt8) : Option (Nat × Nat) := match s1 N D l 0 0 with
  | none => none
  | some (x, p) => match s1 N D (l.drop p) 0 0 with | none => none | some (y, _) => some (x, y)
theorem twoG_twoP (N D i k : Nat) (l : List UInt8) : decide (twoG N D l = some (i, k)) = twoP N D i k l := by
  rw [Bool.eq_iff_iff, decide_eq_true_iff]
  unfold twoG twoP oneP
  cases s1 N D l 0 0 with
  | none => simp
  | some xp =>
    obtain ⟨x, p⟩ := xp
    dsimp only
    cases s1 N D (l.drop p) 0 0 with
    | none => simp
    | some yq => simp
theorem gV_two {N D : Nat} (h : N < D) (n : Nat) (v : Int) : gV N D true n v = sumN (fun i => sumN (fun k => if (i : Int) - (k : Int) = v then cw n (twoP N D i k) else 0) (n + 1)) (n + 1) := by
  have h1 := countP_pairs (twoG N D) (fun i k => decide ((i : Int) - (k : Int) = v)) (n + 1) (allW n) (fun l hl i k hg => by
    have hn := allW_len hl
    unfold twoG at hg
    cases hs : s1 N D l 0 0 with
    | none => rw [hs] at hg; cases hg
    | some xp =>
      obtain ⟨x, p⟩ := xp
      obtain ⟨b1, b2⟩ := s1_bd h hs
      rw [hs] at hg
      dsimp only at hg
      cases hs2 : s1 N D (l.drop p) 0 0 with
      | none => rw [hs2] at hg; cases hg
      | some yq =>
        obtain ⟨y, q⟩ := yq
        obtain ⟨b3, b4⟩ := s1_bd h hs2
        rw [hs2] at hg
        rw [List.length_drop] at b4
        simp at hg
        omega)
  unfold gV
  rw [← cw_all]
  refine Eq.trans ?_ (h1.trans ?_)
  · refine List.countP_congr fun l hl => ?_
    unfold valT twoG
    cases s1 N D l 0 0 with
    | none => simp
    | some xp =>
      obtain ⟨x, p⟩ := xp
      simp only [if_true]
      cases s1 N D (l.drop p) 0 0 with
      | none => simp
      | some yq => simp
  · refine sumN_congr fun i _ => sumN_congr fun k _ => ?_
    simp only [decide_eq_true_eq]
    split
    · rw [cw_all]
      exact cw_congr fun l _ => twoG_twoP N D i k l
    · rfl
theorem gV_sum {N D : Nat} (h : N < D) (two : Bool) (n : Nat) : sumN (fun j => gV N D two n ((j : Int) - (n : Int))) (2 * n + 1) + gL N D two n = 2 ^ n := by
  have h1 := count_all (fun l => ((valT N D two l).isSome, ((valT N D two l).getD 0 + (n : Int)).toNat)) (2 * n + 1) (allW n) (fun l hl hd => by
    have hn := allW_len hl
    dsimp only at hd ⊢
    obtain ⟨v, hv⟩ := Option.isSome_iff_exists.1 hd
    have := valT_bd h hv
    rw [hv, Option.getD_some]
    omega)
  rw [allW_length] at h1
  rw [← h1]
  congr 1
  · refine sumN_congr fun j hj => ?_
    unfold gV
    rw [← cw_all]
    refine List.countP_congr fun l hl => ?_
    have hn := allW_len hl
    cases hv : valT N D two l with
    | none => simp
    | some v =>
      have := valT_bd h hv
      simp
      omega
  · unfold gL
    rw [← cw_all]
    refine List.countP_congr fun l hl => ?_
    cases valT N D two l <;> simp
theorem gV_le {N D : Nat} (h : N < D) (two : Bool) (n : Nat) (v : Int) : gV N D two n v ≤ 2 ^ n := by
  by_cases hv : v < -(n : Int) ∨ (n : Int) < v
  · rw [gV_out h hv]; exact Nat.zero_le _
  · have h1 := gV_sum h two n
    have h2 := sumN_at (f := fun j => gV N D two n ((j : Int) - (n : Int))) (i := (v + n).toNat) (n := 2 * n + 1) (by omega)
    rw [show ((v + (n : Int)).toNat : Int) - (n : Int) = v by omega] at h2
    omega
end Go.Proofs.YtccalhlhdiapiaaGreatDoor
namespace Go.Proofs.YtccalhlhdiapiaaGreatDoor
open Go.RowKit
open Go.Lib (decDigits nDigits)
def numL (l : List Nat) : List Value := l.map fun n => .string (numB n)
@[simp] theorem numL_length (l : List Nat) : (numL l).length = l.length := by simp [numL]
theorem numL_get {l : List Nat} {i : Nat} (h : i < l.length) : (numL l)[i]? = some (.string (numB (l.getD i 0))) := by
  simp [numL, List.getD_eq_getElem?_getD, List.getElem?_eq_getElem h]
theorem numL_set (l : List Nat) (i x : Nat) : (numL l).set i (.string (numB x)) = numL (l.set i x) := by simp [numL, List.map_set]
def addAt (c : Bool) (k x : Nat) (l : List Nat) : List Nat := if c = true then l.set k (l.getD k 0 + x) else l
theorem addAt_length (c : Bool) (k x : Nat) (l : List Nat) : (addAt c k x l).length = l.length := by unfold addAt; split <;> simp
theorem addAt_false (k x : Nat) (l : List Nat) : addAt false k x l = l := rfl
theorem addAt_true (k x : Nat) (l : List Nat) : addAt true k x l = l.set k (l.getD k 0 + x) := rfl
theorem addAt_get (c : Bool) {k x : Nat} {l : List Nat} (hk : k < l.length) (i : Nat) : (addAt c k x l).getD i 0 = l.getD i 0 + (if c = true ∧ i = k then x else 0) := by
  cases c
  · rw [addAt_false]; simp
  · rw [addAt_true, List.getD_eq_getElem?_getD, List.getD_eq_getElem?_getD, List.getElem?_set]
    by_cases h : k = i
    · subst h; simp [hk, List.getD_eq_getElem?_getD]
    · simp [h, show ¬ i = k from fun e => h e.symm]
def tStep (os zs : Nat → Bool) (i j : Nat) (s : List Nat × List Nat) : List Nat × List Nat := (addAt (os j) (i + j) (s.1.getD i 0) s.1, addAt (zs j) (i + j) (s.1.getD i 0) s.2)
def tIn (os zs : Nat → Bool) (i : Nat) : Nat → List Nat × List Nat → List Nat × List Nat
  | 0, s => s
  | j + 1, s => tStep os zs i j (tIn os zs i j s)
def tOut (os zs : Nat → Bool) (n : Nat) : Nat → List Nat × List Nat
  | 0 => (1 :: List.replicate n 0, List.replicate (n + 1) 0)
  | i + 1 => if (tOut os zs n i).1.getD i 0 = 0 then tOut os zs n i else tIn os zs i (n + 1 - i) (tOut os zs n i)
structure TB (n i j : Nat) (s : List Nat × List Nat) : Prop where
  l1 : s.1.length = n + 1
  l2 : s.2.length = n + 1
  up1 : ∀ k, s.1.getD k 0 ≤ 2 ^ (i + 1)
  up2 : ∀ k, s.2.getD k 0 ≤ 2 ^ (i + 1)
  hi1 : ∀ k, i + j ≤ k → s.1.getD k 0 ≤ 2 ^ i
  hi2 : ∀ k, i + j ≤ k → s.2.getD k 0 ≤ 2 ^ i
  src : s.1.getD i 0 ≤ 2 ^ i
theorem TB.step {os zs : Nat → Bool} (h0 : os 0 = false) {n i j : Nat} {s : List Nat × List Nat} (h : TB n i j s) (hij : i + j ≤ n) : TB n i (j + 1) (tStep os zs i j s) ∧ (tStep os zs i j s).1.getD i 0 = s.1.getD i 0 := by
  have e1 := addAt_get (os j) (x := s.1.getD i 0) (show i + j < s.1.length by rw [h.l1]; omega)
  have e2 := addAt_get (zs j) (x := s.1.getD i 0) (show i + j < s.2.length by rw [h.l2]; omega)
  have p : 2 ^ (i + 1) = 2 ^ i + 2 ^ i := by rw [Nat.pow_succ]; omega
  have hs := h.src
  have h3 : (tStep os zs i j s).1.getD i 0 = s.1.getD i 0 := by
    show (addAt _ _ _ _).getD _ _ = _
    rw [e1]
    rw [if_neg]
    · omega
    · rintro ⟨h1, h2⟩
      rw [show j = 0 by omega, h0] at h1
      cases h1
  refine ⟨⟨by show (addAt _ _ _ _).length = _; rw [addAt_length, h.l1], by show (addAt _ _ _ _).length = _; rw [addAt_length, h.l2], fun k => ?_, fun k => ?_, fun k hk => ?_, fun k hk => ?_, by rw [h3]; exact hs⟩, h3⟩
  · show (addAt _ _ _ _).getD _ _ ≤ _
    rw [e1]
    have := h.up1 k
    split
    · rename_i hc
      have := h.hi1 k (by omega)
      omega
    · omega
  · show (addAt _ _ _ _).getD _ _ ≤ _
    rw [e2]
    have := h.up2 k
    split
    · rename_i hc
      have := h.hi2 k (by omega)
      omega
    · omega
  · show (addAt _ _ _ _).getD _ _ ≤ _
    rw [e1, if_neg (by omega)]
    exact h.hi1 k (by omega)
  · show (addAt _ _ _ _).getD _ _ ≤ _
    rw [e2, if_neg (by omega)]
    exact h.hi2 k (by omega)
theorem TB.inner {os zs : Nat → Bool} (h0 : os 0 = false) {n i : Nat} {s : List Nat × List Nat} (h : TB n i 0 s) : ∀ j, i + j ≤ n + 1 → TB n i j (tIn os zs i j s) ∧ (tIn os zs i j s).1.getD i 0 = s.1.getD i 0
  | 0, _ => ⟨h, rfl⟩
  | j + 1, hj => by
    obtain ⟨h1, h2⟩ := TB.inner h0 h j (by omega)
    obtain ⟨h3, h4⟩ := TB.step h0 (os := os) (zs := zs) h1 (by omega)
    exact ⟨h3, h4.trans h2⟩
theorem TB.next {n i j : Nat} {s : List Nat × List Nat} (h : TB n i j s) : TB n (i + 1) 0 s := by
  have p : 2 ^ (i + 1) ≤ 2 ^ (i + 1 + 1) := Nat.pow_le_pow_right (by omega) (by omega)
  exact ⟨h.l1, h.l2, fun k => Nat.le_trans (h.up1 k) p, fun k => Nat.le_trans (h.up2 k) p, fun k _ => h.up1 k, fun k _ => h.up2 k, h.up1 _⟩
theorem TB.outer {os zs : Nat → Bool} (h0 : os 0 = false) (n : Nat) : ∀ i, i ≤ n + 1 → TB n i 0 (tOut os zs n i)
  | 0, _ => by
    have e1 : ∀ k, (1 :: List.replicate n 0).getD k 0 ≤ 1 := fun k => by
      cases k with
      | zero => simp
      | succ k =>
        rw [List.getD_cons_succ, List.getD_eq_getElem?_getD, List.getElem?_replicate]
        split <;> simp
    have e2 : ∀ k, (List.replicate (n + 1) 0).getD k 0 ≤ 1 := fun k => by
      rw [List.getD_eq_getElem?_getD, List.getElem?_replicate]
      split <;> simp
    refine ⟨by simp [tOut], by simp [tOut], fun k => Nat.le_trans (e1 k) (by simp), fun k => Nat.le_trans (e2 k) (by simp), fun k _ => e1 k, fun k _ => e2 k, e1 _⟩
  | i + 1, hi => by
    have ih := TB.outer h0 (zs := zs) n i (by omega)
    rw [tOut]
    split
    · exact ih.next
    · exact (TB.inner h0 ih (n + 1 - i) (by omega)).1.next
theorem two_pow_digits {x i : Nat} (h : x ≤ 2 ^ i) (hi : i ≤ 3000) : nDigits x ≤ 4000 := by
  refine Nat.le_trans (nDigits_mono h) ?_
  have h1 : 2 ^ i < 10 ^ (i + 1) := by
    have h2 : 2 ^ i ≤ 10 ^ i := Nat.pow_le_pow_left (by omega) i
    have h3 : 10 ^ i < 10 ^ (i + 1) := Nat.pow_lt_pow_right (by omega) (by omega)
    omega
  exact Nat.le_trans (nDigits_le (Nat.succ_pos i) h1) (by omega)
end Go.Proofs.YtccalhlhdiapiaaGreatDoor
namespace Go.Proofs.YtccalhlhdiapiaaGreatDoor
open Go.RowKit
set_option linter.unusedVariables false
set_option linter.unusedSimpArgs false
def aIn (c : Nat → Bool) (x i : Nat) : Nat → List Nat → List Nat
  | 0, l => l
  | j + 1, l => addAt (c j) (i + j) x (aIn c x i j l)
def aOut (c : Nat → Bool) (O : List Nat) (n : Nat) : Nat → List Nat
  | 0 => List.replicate (n + 1) 0
  | i + 1 => aIn c (O.getD i 0) i (n + 1 - i) (aOut c O n i)
theorem aIn_length (c : Nat → Bool) (x i : Nat) : ∀ (j : Nat) (l : List Nat), (aIn c x i j l).length = l.length
  | 0, l => rfl
  | j + 1, l => by rw [aIn, addAt_length, aIn_length c x i j l]
theorem aOut_length (c : Nat → Bool) (O : List Nat) (n : Nat) : ∀ i, (aOut c O n i).length = n + 1
  | 0 => by simp [aOut]
  | i + 1 => by rw [aOut, aIn_length, aOut_length c O n i]
theorem addAt_zero (b : Bool) (k : Nat) (l : List Nat) : addAt b k 0 l = l := by
  unfold addAt
  split
  · rw [Nat.add_zero]
    apply List.ext_getElem?
    intro m
    rw [List.getElem?_set]
    split
    · rename_i h
      subst h
      split
      · rename_i hk
        rw [List.getD_eq_getElem?_getD, List.getElem?_eq_getElem hk]; rfl
      · rename_i hk
        rw [List.getElem?_eq_none (by omega)]
    · rfl
  · rfl
theorem aIn_zero (c : Nat → Bool) (i : Nat) : ∀ (j : Nat) (l : List Nat), aIn c 0 i j l = l
  | 0, l => rfl
  | j + 1, l => by rw [aIn, addAt_zero, aIn_zero c i j l]
theorem aIn_get {c : Nat → Bool} {x i n : Nat} {l : List Nat} (hl : l.length = n + 1) : ∀ {j : Nat}, i + j ≤ n + 1 → ∀ k, (aIn c x i j l).getD k 0 = l.getD k 0 + (if i ≤ k ∧ k < i + j ∧ c (k - i) = true then x else 0)
  | 0, _, k => by rw [aIn, if_neg (by omega)]; rfl
  | j + 1, h, k => by
    rw [aIn, addAt_get _ (by rw [aIn_length]; omega), aIn_get hl (by omega) k, Nat.add_assoc]
    congr 1
    by_cases hk : k = i + j
    · subst hk
      rw [if_neg (by omega), show i + j - i = j by omega, Nat.zero_add]
      by_cases hc : c j = true
      · rw [if_pos ⟨hc, rfl⟩, if_pos ⟨by omega, by omega, hc⟩]
      · rw [if_neg (fun h => hc h.1), if_neg (fun h => hc h.2.2)]
    · have e0 : (if c j = true ∧ k = i + j then x else 0) = 0 := if_neg (fun h => hk h.2)
      rw [e0, Nat.add_zero]
      by_cases hc : i ≤ k ∧ k < i + j ∧ c (k - i) = true
      · rw [if_pos hc, if_pos ⟨hc.1, by omega, hc.2.2⟩]
      · rw [if_neg hc, if_neg (fun h => hc ⟨h.1, by omega, h.2.2⟩)]
theorem aOut_get {c : Nat → Bool} {O : List Nat} {n : Nat} : ∀ {i : Nat}, i ≤ n + 1 → ∀ k, k ≤ n → (aOut c O n i).getD k 0 = sumN (fun i' => if i' ≤ k ∧ c (k - i') = true then O.getD i' 0 else 0) i
  | 0, _, k, hk => by simp [aOut, sumN, List.getD_eq_getElem?_getD, List.getElem?_replicate, show k < n + 1 by omega]
  | i + 1, h, k, hk => by
    rw [aOut, aIn_get (aOut_length c O n i) (by omega), aOut_get (by omega) k hk, sumN]
    congr 1
    by_cases hc : i ≤ k ∧ c (k - i) = true
    · rw [if_pos hc, if_pos ⟨hc.1, by omega, hc.2⟩]
    · rw [if_neg hc, if_neg (fun h => hc ⟨h.1, h.2.2⟩)]
def fnL (f : Nat → Nat) (n : Nat) : List Nat := (List.range (n + 1)).map f
theorem fnL_length (f : Nat → Nat) (n : Nat) : (fnL f n).length = n + 1 := by simp [fnL]
theorem fnL_get {f : Nat → Nat} {n k : Nat} (h : k ≤ n) : (fnL f n).getD k 0 = f k := by simp [fnL, List.getD_eq_getElem?_getD, show k < n + 1 by omega]
theorem fnL_ext {l : List Nat} {f : Nat → Nat} {n : Nat} (hl : l.length = n + 1) (h : ∀ k, k ≤ n → l.getD k 0 = f k) : l = fnL f n := by
  apply List.ext_getElem?
  intro k
  by_cases hk : k ≤ n
  · have h1 := h k hk
    rw [List.getD_eq_getElem?_getD, List.getElem?_eq_getElem (by omega)] at h1
    rw [List.getElem?_eq_getElem (by omega)]
    simp only [Option.getD_some] at h1
    rw [h1]
    simp [fnL, show k < n + 1 by omega]
  · rw [List.getElem?_eq_none (by omega), List.getElem?_eq_none (by rw [fnL_length]; omega)]
theorem aOut_fn {c : Nat → Bool} {f : Nat → Nat} {n : Nat} : aOut c (fnL f n) n (n + 1) = fnL (cvo (chi c) f) n := by
  refine fnL_ext (aOut_length _ _ _ _) fun k hk => ?_
  rw [aOut_get (Nat.le_refl _) k hk, cvo_comm]
  unfold cvo
  have e : ∀ m, sumN (fun i' => if i' ≤ k ∧ c (k - i') = true then (fnL f n).getD i' 0 else 0) (k + 1 + m) = sumN (fun i' => if i' ≤ k ∧ c (k - i') = true then (fnL f n).getD i' 0 else 0) (k + 1) := fun m => by
    induction m with
    | zero => rfl
    | succ m ih => rw [← Nat.add_assoc, sumN, ih, if_neg (by omega)]; rfl
  rw [show n + 1 = k + 1 + (n - k) by omega, e]
  refine sumN_congr fun i hi => ?_
  rw [fnL_get (by omega)]
  unfold chi
  by_cases hc : c (k - i) = true
  · rw [if_pos ⟨by omega, hc⟩, if_pos hc, Nat.mul_one]
  · rw [if_neg (fun h => hc h.2), if_neg hc, Nat.mul_zero]
def opnL (N D n i : Nat) : List Nat := fnL (opn N D i) n
def ednL (N D n i : Nat) : List Nat := fnL (edn N D i) n
theorem opnL_zero (N D n : Nat) : (List.replicate (n + 1) 0).set 0 1 = opnL N D n 0 := by
  refine fnL_ext (by simp) fun k hk => ?_
  rw [List.getD_eq_getElem?_getD, List.getElem?_set]
  unfold opn dlt
  by_cases h : k = 0
  · subst h; simp
  · rw [if_neg (fun e => h e.symm), if_neg h]
    simp [List.getElem?_replicate, show k < n + 1 by omega]
theorem opnL_succ (N D n i : Nat) : aOut (oneJ N D) (opnL N D n i) n (n + 1) = opnL N D n (i + 1) := aOut_fn
theorem ednL_is (N D n i : Nat) : aOut (zeroJ N D) (opnL N D n i) n (n + 1) = ednL N D n i := aOut_fn
theorem cvo_bd {c : Nat → Bool} {f : Nat → Nat} {B n : Nat} (h : ∀ s, s ≤ n → f s ≤ B) : ∀ k, k ≤ n → cvo (chi c) f k ≤ (n + 1) * B := fun k hk => by
  unfold cvo
  have h1 : sumN (fun s => chi c s * f (k - s)) (k + 1) ≤ sumN (fun _ => B) (k + 1) := sumN_le fun s hs => by
    have := chi_le c s
    have := h (k - s) (by omega)
    calc chi c s * f (k - s) ≤ 1 * f (k - s) := Nat.mul_le_mul_right _ (by assumption)
      _ ≤ B := by omega
  have h2 : ∀ m, sumN (fun _ => B) m = m * B := fun m => by
    induction m with
    | zero => simp [sumN]
    | succ m ih => rw [sumN, ih, Nat.succ_mul]
  rw [h2] at h1
  exact Nat.le_trans h1 (Nat.mul_le_mul_right _ (by omega))
theorem opn_bd {N D n : Nat} (hn : n ≤ 32) : ∀ i s, s ≤ n → opn N D i s ≤ 2 ^ (6 * i)
  | 0, s, hs => by unfold opn dlt; split <;> simp
  | i + 1, s, hs => by
    have h := cvo_bd (c := oneJ N D) (f := opn N D i) (B := 2 ^ (6 * i)) (n := n) (fun s hs => opn_bd hn i s hs) s hs
    rw [opn]
    refine Nat.le_trans h ?_
    rw [show 6 * (i + 1) = 6 + 6 * i by omega, Nat.pow_add]
    exact Nat.mul_le_mul_right _ (by omega)
theorem edn_bd {N D n : Nat} (hn : n ≤ 32) (i s : Nat) (hs : s ≤ n) : edn N D i s ≤ 2 ^ (6 * (i + 1)) := by
  have h := cvo_bd (c := zeroJ N D) (f := opn N D i) (B := 2 ^ (6 * i)) (n := n) (fun s hs => opn_bd hn i s hs) s hs
  unfold edn
  refine Nat.le_trans h ?_
  rw [show 6 * (i + 1) = 6 + 6 * i by omega, Nat.pow_add]
  exact Nat.mul_le_mul_right _ (by omega)
theorem aIn_le {c : Nat → Bool} {O : List Nat} {n i j k : Nat} (hi : i ≤ n) (hij : i + j ≤ n + 1) (hk : k ≤ n) : (aIn c (O.getD i 0) i j (aOut c O n i)).getD k 0 ≤ (aOut c O n (n + 1)).getD k 0 := by
  rw [aIn_get (aOut_length _ _ _ _) hij, aOut_get (by omega) k hk, aOut_get (Nat.le_refl _) k hk]
  refine Nat.le_trans ?_ (sumN_mono (show i + 1 ≤ n + 1 by omega))
  rw [sumN]
  refine Nat.add_le_add_left ?_ _
  by_cases hc : i ≤ k ∧ c (k - i) = true
  · rw [if_pos hc]; split <;> omega
  · rw [if_neg hc, if_neg (fun h => hc ⟨h.1, h.2.2⟩)]; exact Nat.le_refl _
end Go.Proofs.YtccalhlhdiapiaaGreatDoor
namespace Go.Proofs.YtccalhlhdiapiaaGreatDoor
open Go.RowKit
set_option linter.unusedVariables false
set_option linter.unusedSimpArgs false
def addM (c : Int → Nat) (v : Int) (x : Nat) : Int → Nat := fun w => if w = v then c w + x else c w
theorem sumN_swap (f : Nat → Nat → Nat) (m : Nat) : ∀ n, sumN (fun i => sumN (fun k => f i k) m) n = sumN (fun k => sumN (fun i => f i k) n) m
  | 0 => by simp only [sumN]; rw [sumN_zero]
  | n + 1 => by rw [sumN, sumN_swap f m n, ← sumN_add]; rfl
theorem sumN_if (c : Prop) [Decidable c] (f : Nat → Nat) (n : Nat) : sumN (fun i => if c then f i else 0) n = if c then sumN f n else 0 := by
  split
  · rfl
  · exact sumN_zero n
def c1 (N D n i s : Nat) (v : Int) : Nat := sumN (fun i' => if (i' : Int) = v then sumN (fun s' => edn N D i' s' * 2 ^ (n - s')) (n + 1) else 0) i + (if (i : Int) = v then sumN (fun s' => edn N D i s' * 2 ^ (n - s')) s else 0)
theorem c1_zero (N D n : Nat) : c1 N D n 0 0 = fun _ => 0 := by funext v; simp [c1, sumN]
theorem c1_step (N D n i s : Nat) : c1 N D n i (s + 1) = addM (c1 N D n i s) (i : Int) (edn N D i s * 2 ^ (n - s)) := by
  funext v
  unfold addM c1
  by_cases h : (i : Int) = v
  · subst h
    rw [if_pos rfl, if_pos rfl, if_pos rfl, sumN]; omega
  · rw [if_neg h, if_neg h, if_neg (fun e => h e.symm)]
theorem c1_row (N D n i : Nat) : c1 N D n i (n + 1) = c1 N D n (i + 1) 0 := by
  funext v
  unfold c1
  rw [sumN]
  simp [sumN]
theorem c1_skip {N D n i s : Nat} (h : edn N D i s = 0) : c1 N D n i (s + 1) = c1 N D n i s := by
  rw [c1_step, h]
  funext v
  unfold addM
  split <;> simp
theorem c1_end {N D : Nat} (h : N < D) (n : Nat) (v : Int) : c1 N D n (n + 1) 0 v = gV N D false n v := by
  rw [gV_one]
  unfold c1
  have e : ∀ i, sumN (fun s' => edn N D i s' * 2 ^ (n - s')) (n + 1) = cw n (oneP N D i) := fun i => (cw_oneP h i n).symm
  simp only [e]
  rw [show (if ((n + 1 : Nat) : Int) = v then sumN (fun s' => edn N D (n + 1) s' * 2 ^ (n - s')) 0 else 0) = 0 by split <;> rfl, Nat.add_zero]
  by_cases h0 : 0 ≤ v
  · rw [if_pos h0]
    rw [sumN_congr (d := fun i => if v.toNat = i then cw n (oneP N D v.toNat) else 0) (fun i _ => by
      by_cases hi : (i : Int) = v
      · rw [if_pos hi, if_pos (by omega), show v.toNat = i by omega]
      · rw [if_neg hi, if_neg (by omega)])]
    have e2 : ∀ m, sumN (fun i => if v.toNat = i then cw n (oneP N D v.toNat) else 0) m = if v.toNat < m then cw n (oneP N D v.toNat) else 0 := fun m => by
      induction m with
      | zero => simp [sumN]
      | succ m ih =>
        rw [sumN, ih]
        by_cases h1 : v.toNat < m
        · rw [if_pos h1, if_neg (by omega), if_pos (by omega)]; rfl
        · rw [if_neg h1, Nat.zero_add]
          by_cases h2 : v.toNat = m
          · rw [if_pos h2, if_pos (by omega)]
          · rw [if_neg h2, if_neg (by omega)]
    rw [e2]
    split
    · rfl
    · rename_i hn
      refine (cw_none fun l hl => ?_).symm
      unfold oneP
      cases hs : s1 N D l 0 0 with
      | none => rfl
      | some xp =>
        obtain ⟨x, p⟩ := xp
        obtain ⟨b1, b2⟩ := s1_bd h hs
        exact decide_eq_false (by omega)
  · rw [if_neg h0]
    rw [sumN_congr (d := fun _ => 0) (fun i _ => if_neg (by omega)), sumN_zero]
theorem c1_le {N D n i s : Nat} (h : N < D) (hi : i ≤ n) (hs : s ≤ n + 1) (v : Int) : c1 N D n i s v ≤ gV N D false n v := by
  rw [← c1_end h]
  have h1 : c1 N D n i s v ≤ c1 N D n (i + 1) 0 v := by
    rw [← c1_row]
    unfold c1
    refine Nat.add_le_add_left ?_ _
    split
    · exact sumN_mono hs
    · exact Nat.le_refl _
  refine Nat.le_trans h1 ?_
  unfold c1
  have e : ∀ i, (if ((i : Nat) : Int) = v then sumN (fun s' => edn N D i s' * 2 ^ (n - s')) 0 else 0) = 0 := fun i => by split <;> rfl
  rw [e, e]
  exact sumN_mono (by omega)
def p2 (N D n i s k u : Nat) (v : Int) : Nat := if (i : Int) - (k : Int) = v then sumN (fun u' => edn N D i s * edn N D k u' * 2 ^ (n - s - u')) u else 0
def q2 (N D n i s k : Nat) (v : Int) : Nat := sumN (fun k' => p2 N D n i s k' (n - s + 1) v) k
def r2 (N D n i s : Nat) (v : Int) : Nat := sumN (fun s' => q2 N D n i s' (n + 1) v) s
def t2 (N D n i : Nat) (v : Int) : Nat := sumN (fun i' => r2 N D n i' (n + 1) v) i
def c2 (N D n i s k u : Nat) (v : Int) : Nat := t2 N D n i v + r2 N D n i s v + q2 N D n i s k v + p2 N D n i s k u v
theorem p2_zero (N D n i s k : Nat) (v : Int) : p2 N D n i s k 0 v = 0 := by unfold p2; split <;> rfl
theorem c2_zero (N D n : Nat) : c2 N D n 0 0 0 0 = fun _ => 0 := by funext v; simp [c2, t2, r2, q2, p2_zero, sumN]
theorem c2_u (N D n i s k u : Nat) : c2 N D n i s k (u + 1) = addM (c2 N D n i s k u) ((i : Int) - (k : Int)) (edn N D i s * edn N D k u * 2 ^ (n - s - u)) := by
  funext v
  unfold addM c2 p2
  by_cases h : (i : Int) - (k : Int) = v
  · subst h
    rw [if_pos rfl, if_pos rfl, if_pos rfl, sumN]; omega
  · rw [if_neg h, if_neg h, if_neg (fun e => h e.symm)]
theorem c2_skip {N D n i s k u : Nat} (h : edn N D k u = 0) : c2 N D n i s k (u + 1) = c2 N D n i s k u := by
  rw [c2_u, h]
  funext v
  unfold addM
  split <;> simp
theorem c2_k (N D n i s k : Nat) : c2 N D n i s k (n - s + 1) = c2 N D n i s (k + 1) 0 := by
  funext v
  unfold c2
  rw [p2_zero]
  unfold q2
  rw [sumN]; omega
theorem c2_s (N D n i s : Nat) : c2 N D n i s (n + 1) 0 = c2 N D n i (s + 1) 0 0 := by
  funext v
  unfold c2
  rw [p2_zero, p2_zero]
  unfold r2
  rw [sumN]
  simp only [q2, sumN]; omega
theorem c2_none {N D n i s : Nat} (h : edn N D i s = 0) : c2 N D n i (s + 1) 0 0 = c2 N D n i s 0 0 := by
  rw [← c2_s]
  funext v
  unfold c2
  rw [p2_zero, p2_zero]
  have e : q2 N D n i s (n + 1) v = 0 := by
    unfold q2
    rw [sumN_congr (d := fun _ => 0) (fun k _ => by
      unfold p2
      split
      · rw [sumN_congr (d := fun _ => 0) (fun u _ => by rw [h, Nat.zero_mul, Nat.zero_mul]), sumN_zero]
      · rfl), sumN_zero]
  rw [e]
  simp [q2, sumN]
theorem c2_i (N D n i : Nat) : c2 N D n i (n + 1) 0 0 = c2 N D n (i + 1) 0 0 0 := by
  funext v
  unfold c2
  rw [p2_zero, p2_zero]
  unfold t2
  rw [sumN]
  simp only [q2, r2, sumN]
theorem c2_end {N D : Nat} (h : N < D) (n : Nat) (v : Int) : c2 N D n (n + 1) 0 0 0 v = gV N D true n v := by
  rw [gV_two h]
  unfold c2
  rw [p2_zero]
  simp only [q2, sumN, r2, Nat.add_zero]
  unfold t2 r2 q2
  refine sumN_congr fun i _ => ?_
  rw [sumN_swap (fun s k => p2 N D n i s k (n - s + 1) v)]
  refine sumN_congr fun k _ => ?_
  unfold p2
  rw [sumN_if]
  by_cases hv : (i : Int) - (k : Int) = v
  · rw [if_pos hv, if_pos hv, cw_twoP h k i n]
    unfold cvo
    refine sumN_congr fun s _ => ?_
    rw [← sumN_mul]
    refine sumN_congr fun u _ => ?_
    unfold pw2
    rw [Nat.mul_assoc]
  · rw [if_neg hv, if_neg hv]
theorem c2_le {N D n i s k u : Nat} (h : N < D) (hi : i ≤ n) (hs : s ≤ n) (hk : k ≤ n) (hu : u ≤ n - s + 1) (v : Int) : c2 N D n i s k u v ≤ gV N D true n v := by
  rw [← c2_end h]
  have a1 : p2 N D n i s k u v ≤ p2 N D n i s k (n - s + 1) v := by
    unfold p2
    split
    · exact sumN_mono hu
    · exact Nat.le_refl _
  have a2 : q2 N D n i s k v + p2 N D n i s k (n - s + 1) v ≤ q2 N D n i s (n + 1) v := by
    have : q2 N D n i s (k + 1) v ≤ q2 N D n i s (n + 1) v := sumN_mono (by omega)
    unfold q2 at *
    rw [sumN] at this; omega
  have a3 : r2 N D n i s v + q2 N D n i s (n + 1) v ≤ r2 N D n i (n + 1) v := by
    have : r2 N D n i (s + 1) v ≤ r2 N D n i (n + 1) v := sumN_mono (by omega)
    unfold r2 at *
    rw [sumN] at this; omega
  have a4 : t2 N D n i v + r2 N D n i (n + 1) v ≤ t2 N D n (n + 1) v := by
    have : t2 N D n (i + 1) v ≤ t2 N D n (n + 1) v := sumN_mono (by omega)
    unfold t2 at *
    rw [sumN] at this; omega
  unfold c2
  omega
end Go.Proofs.YtccalhlhdiapiaaGreatDoor
namespace Go.Proofs.YtccalhlhdiapiaaGreatDoor
open Go.RowKit
open Go.Lib (decDigits nDigits)
def cStep (L : List Nat) (i k : Nat) (m : List Nat) : List Nat := m.set (i + k) (m.getD (i + k) 0 + L.getD i 0 * L.getD k 0)
def cIn (L : List Nat) (i : Nat) : Nat → List Nat → List Nat
  | 0, m => m
  | k + 1, m => cStep L i k (cIn L i k m)
def cOut (L : List Nat) (n : Nat) : Nat → List Nat
  | 0 => List.replicate (n + 1) 0
  | i + 1 => cIn L i (n + 1 - i) (cOut L n i)
structure CB (n B t : Nat) (m : List Nat) : Prop where
  len : m.length = n + 1
  up : ∀ k, m.getD k 0 ≤ t * B
theorem getD_set (l : List Nat) {i : Nat} (hi : i < l.length) (x k : Nat) : (l.set i x).getD k 0 = if i = k then x else l.getD k 0 := by
  rw [List.getD_eq_getElem?_getD, List.getD_eq_getElem?_getD, List.getElem?_set]
  by_cases h : i = k
  · subst h; simp [hi]
  · simp [h]
theorem CB.step {L m : List Nat} {n B t i k : Nat} (h : CB n (B * B) t m) (hL : ∀ k, L.getD k 0 ≤ B) (hik : i + k ≤ n) : CB n (B * B) (t + 1) (cStep L i k m) := by
  refine ⟨by simp [cStep, h.len], fun j => ?_⟩
  have h1 := h.up j
  have h2 := h.up (i + k)
  have h3 := Nat.mul_le_mul (hL i) (hL k)
  unfold cStep
  rw [getD_set _ (by rw [h.len]; omega), Nat.succ_mul]
  split <;> omega
theorem CB.inner {L m : List Nat} {n B t i : Nat} (h : CB n (B * B) t m) (hL : ∀ k, L.getD k 0 ≤ B) : ∀ k, i + k ≤ n + 1 → CB n (B * B) (t + k) (cIn L i k m)
  | 0, _ => h
  | k + 1, hk => CB.step (CB.inner h hL k (by omega)) hL (by omega)
theorem CB.outer {L : List Nat} {n B : Nat} (hL : ∀ k, L.getD k 0 ≤ B) : ∀ i, i ≤ n + 1 → CB n (B * B) (i * (n + 1)) (cOut L n i)
  | 0, _ => ⟨by simp [cOut], fun k => by
      rw [cOut, List.getD_eq_getElem?_getD, List.getElem?_replicate]
      split <;> simp⟩
  | i + 1, hi => by
    have h0 := CB.outer (n := n) hL i (by omega)
    have h := CB.inner (i := i) h0 hL (n + 1 - i) (by omega)
    refine ⟨h.len, fun k => Nat.le_trans (h.up k) (Nat.mul_le_mul_right _ ?_)⟩
    rw [Nat.succ_mul]
    omega
def rIn (L : List Nat) (n : Nat) : Nat → Nat
  | 0 => 2 ^ n
  | i + 1 => rIn L n i - L.getD i 0 * 2 ^ (n - i)
theorem rIn_le (L : List Nat) (n : Nat) : ∀ i, rIn L n i ≤ 2 ^ n
  | 0 => Nat.le_refl _
  | i + 1 => by have := rIn_le L n i; rw [rIn]; omega
def e3 : Nat := 300
def e7 : Nat := 700
theorem tab_bound {os zs : Nat → Bool} (h0 : os 0 = false) {n : Nat} (hn : n ≤ 256) : (tOut os zs n (n + 1)).2.length = n + 1 ∧ ∀ k, (tOut os zs n (n + 1)).2.getD k 0 ≤ 2 ^ e3 := by
  have h := TB.outer (zs := zs) h0 n (n + 1) (Nat.le_refl _)
  exact ⟨h.l2, fun k => Nat.le_trans (h.up2 k) (Nat.pow_le_pow_right (by omega) (by unfold e3; omega))⟩
theorem conv_bound {n t : Nat} (hn : n ≤ 256) (ht : t ≤ (n + 1) * (n + 1)) {x : Nat} (h : x ≤ t * (2 ^ e3 * 2 ^ e3)) : x ≤ 2 ^ e7 := by
  refine Nat.le_trans h ?_
  have h1 : t ≤ 2 ^ 20 := by
    refine Nat.le_trans ht ?_
    have : (n + 1) * (n + 1) ≤ 257 * 257 := Nat.mul_le_mul (by omega) (by omega)
    omega
  have h2 := Nat.mul_le_mul_right (2 ^ e3 * 2 ^ e3) h1
  rw [← Nat.pow_add, ← Nat.pow_add] at h2
  rw [← Nat.pow_add]
  exact Nat.le_trans h2 (Nat.pow_le_pow_right (by omega) (by unfold e3 e7; omega))
end Go.Proofs.YtccalhlhdiapiaaGreatDoor
namespace Go.Proofs.YtccalhlhdiapiaaGreatDoor
open Go.RowKit
set_option linter.unusedVariables false
set_option linter.unusedSimpArgs false
theorem tIn_a {os zs : Nat → Bool} (h0 : os 0 = false) {n i : Nat} {s : List Nat × List Nat} (h1 : s.1.length = n + 1) (h2 : s.2.length = n + 1) : ∀ j, i + j ≤ n + 1 → tIn os zs i j s = (aIn os (s.1.getD i 0) i j s.1, aIn zs (s.1.getD i 0) i j s.2)
  | 0, _ => rfl
  | j + 1, h => by
    have e : (aIn os (s.1.getD i 0) i j s.1).getD i 0 = s.1.getD i 0 := by
      rw [aIn_get h1 (by omega), if_neg (by rw [Nat.sub_self, h0]; simp), Nat.add_zero]
    rw [tIn, tIn_a h0 h1 h2 j (by omega), tStep, e, aIn, aIn]
theorem tOut_len {os zs : Nat → Bool} (h0 : os 0 = false) (n : Nat) : ∀ i, i ≤ n + 1 → (tOut os zs n i).1.length = n + 1 ∧ (tOut os zs n i).2.length = n + 1 := fun i hi => by
  have h := TB.outer (os := os) (zs := zs) h0 n i hi
  exact ⟨h.l1, h.l2⟩
theorem tOut_next {os zs : Nat → Bool} (h0 : os 0 = false) {n i : Nat} (hi : i ≤ n) : tOut os zs n (i + 1) = (aIn os ((tOut os zs n i).1.getD i 0) i (n + 1 - i) (tOut os zs n i).1, aIn zs ((tOut os zs n i).1.getD i 0) i (n + 1 - i) (tOut os zs n i).2) := by
  obtain ⟨l1, l2⟩ := tOut_len (os := os) (zs := zs) h0 n i (by omega)
  rw [tOut]
  split
  · rename_i hz
    rw [hz, aIn_zero, aIn_zero]
  · exact tIn_a h0 l1 l2 _ (by omega)
def uT (os zs : Nat → Bool) (n i : Nat) : Nat := (tOut os zs n i).1.getD i 0
theorem tOut_get {os zs : Nat → Bool} (h0 : os 0 = false) {n : Nat} : ∀ {i : Nat}, i ≤ n + 1 → ∀ k, k ≤ n →
    (tOut os zs n i).1.getD k 0 = dlt k + sumN (fun i' => if i' ≤ k ∧ os (k - i') = true then uT os zs n i' else 0) i ∧
    (tOut os zs n i).2.getD k 0 = sumN (fun i' => if i' ≤ k ∧ zs (k - i') = true then uT os zs n i' else 0) i
  | 0, _, k, hk => by
    constructor
    · rw [tOut]
      unfold dlt
      cases k with
      | zero => rfl
      | succ k => simp [sumN, List.getD_eq_getElem?_getD, List.getElem?_replicate, show k < n by omega]
    · rw [tOut]
      simp [sumN, List.getD_eq_getElem?_getD, List.getElem?_replicate, show k < n + 1 by omega]
  | i + 1, h, k, hk => by
    obtain ⟨l1, l2⟩ := tOut_len (os := os) (zs := zs) h0 n i (by omega)
    obtain ⟨g1, g2⟩ := tOut_get h0 (n := n) (i := i) (os := os) (zs := zs) (by omega) k hk
    have e : ∀ c : Nat → Bool, (if i ≤ k ∧ k < i + (n + 1 - i) ∧ c (k - i) = true then (tOut os zs n i).1.getD i 0 else 0) = if i ≤ k ∧ c (k - i) = true then uT os zs n i else 0 := fun c => by
      by_cases hc : i ≤ k ∧ c (k - i) = true
      · rw [if_pos hc, if_pos ⟨hc.1, by omega, hc.2⟩]; rfl
      · rw [if_neg hc, if_neg (fun hh => hc ⟨hh.1, hh.2.2⟩)]
    rw [tOut_next h0 (by omega)]
    dsimp only
    rw [aIn_get l1 (by omega), aIn_get l2 (by omega), g1, g2, sumN, sumN, e, e]
    exact ⟨by omega, rfl⟩
theorem sum_upto {c : Nat → Bool} {f : Nat → Nat} {k : Nat} : ∀ {m : Nat}, k + 1 ≤ m → sumN (fun i' => if i' ≤ k ∧ c (k - i') = true then f i' else 0) m = cvo (chi c) f k := fun {m} hm => by
  rw [cvo_comm]
  unfold cvo
  obtain ⟨d, rfl⟩ : ∃ d, m = k + 1 + d := ⟨m - (k + 1), by omega⟩
  have e : ∀ d, sumN (fun i' => if i' ≤ k ∧ c (k - i') = true then f i' else 0) (k + 1 + d) = sumN (fun i' => if i' ≤ k ∧ c (k - i') = true then f i' else 0) (k + 1) := fun d => by
    induction d with
    | zero => rfl
    | succ d ih => rw [← Nat.add_assoc, sumN, ih, if_neg (by omega)]; rfl
  rw [e]
  refine sumN_congr fun i hi => ?_
  unfold chi
  by_cases hc : c (k - i) = true
  · rw [if_pos ⟨by omega, hc⟩, if_pos hc, Nat.mul_one]
  · rw [if_neg (fun h => hc h.2), if_neg hc, Nat.mul_zero]
theorem uT_eq {os zs : Nat → Bool} (h0 : os 0 = false) {n k : Nat} (hk : k ≤ n) : uT os zs n k = dlt k + cvo (chi os) (uT os zs n) k := by
  have h := (tOut_get (zs := zs) h0 (n := n) (i := k) (by omega) k hk).1
  rw [← sum_upto (m := k + 1) (Nat.le_refl _), sumN, if_neg (by rw [Nat.sub_self, h0]; simp), Nat.add_zero]
  exact h
theorem tot_eq {os zs : Nat → Bool} (h0 : os 0 = false) {n k : Nat} (hk : k ≤ n) : (tOut os zs n (n + 1)).2.getD k 0 = cvo (chi zs) (uT os zs n) k := by
  rw [(tOut_get (os := os) (zs := zs) h0 (n := n) (Nat.le_refl _) k hk).2, sum_upto (by omega)]
theorem cvo_add (f g h : Nat → Nat) (n : Nat) : cvo (fun m => f m + g m) h n = cvo f h n + cvo g h n := by
  unfold cvo
  rw [← sumN_add]
  exact sumN_congr fun i _ => Nat.add_mul _ _ _
theorem renewal {c : Nat → Bool} (h0 : c 0 = false) {F G R : Nat → Nat} {n : Nat} (hF : ∀ m, m ≤ n → F m = cvo (chi c) F m + R m) (hG : ∀ m, m ≤ n → G m = cvo (chi c) G m + R m) : ∀ m, m ≤ n → F m = G m := by
  intro m
  induction m using Nat.strongRecOn with
  | ind m ih =>
    intro hm
    rw [hF m hm, hG m hm]
    congr 1
    unfold cvo
    rw [sumN_shift, sumN_shift]
    have e : chi c 0 = 0 := by unfold chi; rw [h0]; rfl
    rw [e, Nat.zero_mul, Nat.zero_mul]
    congr 1
    refine sumN_congr fun i hi => ?_
    rw [ih (m - (i + 1)) (by omega) (by omega)]
def decP (N D : Nat) (l : List UInt8) : Bool := (s1 N D l 0 0).isSome
def dec2P (N D : Nat) (l : List UInt8) : Bool := match s1 N D l 0 0 with | none => false | some (_, p) => decP N D (l.drop p)
theorem decP_coin {N D : Nat} (h : N < D) (l : List UInt8) : decP N D l = coinP N D 0 1 (decP N D) (fun _ => true) l := by
  unfold coinP
  rw [decP, s1_coin h]
  cases hd : (toss N D 0 1 l).1
  · rfl
  · rw [if_pos rfl, Bool.true_and]
    by_cases hv : (toss N D 0 1 l).2.1 = 1
    · rw [if_pos hv, if_pos hv]
      show _ = decP N D (l.drop (toss N D 0 1 l).2.2)
      rw [decP]
      cases s1 N D (l.drop (toss N D 0 1 l).2.2) 0 0 <;> rfl
    · rw [if_neg hv, if_neg hv]; rfl
theorem dec2P_coin {N D : Nat} (h : N < D) (l : List UInt8) : dec2P N D l = coinP N D 0 1 (dec2P N D) (decP N D) l := by
  unfold coinP
  rw [dec2P, s1_coin h]
  cases hd : (toss N D 0 1 l).1
  · rfl
  · rw [if_pos rfl, Bool.true_and]
    by_cases hv : (toss N D 0 1 l).2.1 = 1
    · rw [if_pos hv, if_pos hv]
      show _ = dec2P N D (l.drop (toss N D 0 1 l).2.2)
      rw [dec2P]
      cases s1 N D (l.drop (toss N D 0 1 l).2.2) 0 0 with
      | none => rfl
      | some x => simp [List.drop_drop]
    · rw [if_neg hv, if_neg hv]
section
variable {N D : Nat} (h : N < D) (n : Nat)
include h
theorem tot_dec {m : Nat} (hm : m ≤ n) : cvo (fun k => (tOut (oneJ N D) (zeroJ N D) n (n + 1)).2.getD k 0) pw2 m = cw m (decP N D) := by
  have o0 : oneJ N D 0 = false := rfl
  have hL : ∀ m, m ≤ n → cvo (fun k => (tOut (oneJ N D) (zeroJ N D) n (n + 1)).2.getD k 0) pw2 m = cvo (uT (oneJ N D) (zeroJ N D) n) (cvo (chi (zeroJ N D)) pw2) m := fun m hm => by
    rw [cvo_congr (f' := cvo (chi (zeroJ N D)) (uT (oneJ N D) (zeroJ N D) n)) (g' := pw2) (fun s hs => tot_eq o0 (by omega)) (fun _ _ => rfl), cvo_assoc, cvo_swap]
  refine renewal (c := oneJ N D) (F := cvo (fun k => (tOut (oneJ N D) (zeroJ N D) n (n + 1)).2.getD k 0) pw2) (G := fun m => cw m (decP N D)) o0 (R := cvo (chi (zeroJ N D)) pw2) (n := n) (fun m hm => ?_) (fun m hm => ?_) m hm
  · rw [hL m hm, cvo_congr (f' := fun k => dlt k + cvo (chi (oneJ N D)) (uT (oneJ N D) (zeroJ N D) n) k) (g' := cvo (chi (zeroJ N D)) pw2) (fun s hs => uT_eq o0 (by omega)) (fun _ _ => rfl), cvo_add, cvo_dlt, cvo_assoc, Nat.add_comm]
    congr 1
    exact cvo_congr (fun _ _ => rfl) fun s hs => (hL s (by omega)).symm
  · rw [cw_congr (Q := coinP N D 0 1 (decP N D) (fun _ => true)) (fun l _ => decP_coin h l), cw_first h]
    congr 1
    exact cvo_congr (fun _ _ => rfl) fun s _ => cw_true s
theorem tot_dec2 {m : Nat} (hm : m ≤ n) : cvo (cvo (fun k => (tOut (oneJ N D) (zeroJ N D) n (n + 1)).2.getD k 0) (fun k => (tOut (oneJ N D) (zeroJ N D) n (n + 1)).2.getD k 0)) pw2 m = cw m (dec2P N D) := by
  have o0 : oneJ N D 0 = false := rfl
  have hT : ∀ s, s ≤ n → (tOut (oneJ N D) (zeroJ N D) n (n + 1)).2.getD s 0 = cvo (chi (zeroJ N D)) (uT (oneJ N D) (zeroJ N D) n) s := fun s hs => tot_eq o0 hs
  have hL : ∀ m, m ≤ n → cvo (cvo (fun k => (tOut (oneJ N D) (zeroJ N D) n (n + 1)).2.getD k 0) (fun k => (tOut (oneJ N D) (zeroJ N D) n (n + 1)).2.getD k 0)) pw2 m = cvo (uT (oneJ N D) (zeroJ N D) n) (cvo (chi (zeroJ N D)) (fun k => cw k (decP N D))) m := fun m hm => by
    rw [cvo_assoc, cvo_congr (f' := cvo (chi (zeroJ N D)) (uT (oneJ N D) (zeroJ N D) n)) (g' := fun k => cw k (decP N D)) (fun s hs => hT s (by omega)) (fun s hs => tot_dec h n (by omega)), cvo_assoc, cvo_swap]
  refine renewal (c := oneJ N D) (F := cvo (cvo (fun k => (tOut (oneJ N D) (zeroJ N D) n (n + 1)).2.getD k 0) (fun k => (tOut (oneJ N D) (zeroJ N D) n (n + 1)).2.getD k 0)) pw2) (G := fun m => cw m (dec2P N D)) o0 (R := cvo (chi (zeroJ N D)) (fun k => cw k (decP N D))) (n := n) (fun m hm => ?_) (fun m hm => ?_) m hm
  · rw [hL m hm, cvo_congr (f' := fun k => dlt k + cvo (chi (oneJ N D)) (uT (oneJ N D) (zeroJ N D) n) k) (g' := cvo (chi (zeroJ N D)) (fun k => cw k (decP N D))) (fun s hs => uT_eq o0 (by omega)) (fun _ _ => rfl), cvo_add, cvo_dlt, cvo_assoc, Nat.add_comm]
    congr 1
    exact cvo_congr (fun _ _ => rfl) fun s hs => (hL s (by omega)).symm
  · rw [cw_congr (Q := coinP N D 0 1 (dec2P N D) (decP N D)) (fun l _ => dec2P_coin h l), cw_first h]
end
theorem cw_not (P : List UInt8 → Bool) : ∀ n, cw n P + cw n (fun l => !P l) = 2 ^ n := fun n => by
  rw [← cw_all, ← cw_all, ← allW_length]
  have : ∀ L : List (List UInt8), L.countP P + L.countP (fun l => !P l) = L.length := fun L => by
    induction L with
    | nil => rfl
    | cons a r ih =>
      simp only [List.countP_cons, List.length_cons]
      cases P a <;> simp <;> omega
  exact this _
theorem gL_dec (N D n : Nat) : gL N D false n = 2 ^ n - cw n (decP N D) := by
  have h := cw_not (decP N D) n
  have e : gL N D false n = cw n (fun l => !decP N D l) := cw_congr fun l _ => by
    rw [Bool.eq_iff_iff, decide_eq_true_iff]
    unfold valT decP
    cases s1 N D l 0 0 <;> simp
  omega
theorem gL_dec2 (N D n : Nat) : gL N D true n = 2 ^ n - cw n (dec2P N D) := by
  have h := cw_not (dec2P N D) n
  have e : gL N D true n = cw n (fun l => !dec2P N D l) := cw_congr fun l _ => by
    rw [Bool.eq_iff_iff, decide_eq_true_iff]
    unfold valT dec2P decP
    cases s1 N D l 0 0 with
    | none => simp
    | some xp =>
      simp only [if_true]
      cases s1 N D (l.drop xp.2) 0 0 <;> simp
  omega
theorem rIn_sum {L : List Nat} {n : Nat} (h : sumN (fun i => L.getD i 0 * 2 ^ (n - i)) (n + 1) ≤ 2 ^ n) : ∀ i, i ≤ n + 1 → rIn L n i = 2 ^ n - sumN (fun i => L.getD i 0 * 2 ^ (n - i)) i
  | 0, _ => by simp [rIn, sumN]
  | i + 1, hi => by
    have := sumN_mono (f := fun i => L.getD i 0 * 2 ^ (n - i)) hi
    rw [rIn, rIn_sum h i (by omega), sumN]; omega
theorem rIn_ok {L : List Nat} {n : Nat} (h : sumN (fun i => L.getD i 0 * 2 ^ (n - i)) (n + 1) ≤ 2 ^ n) : ∀ i, i ≤ n → L.getD i 0 * 2 ^ (n - i) ≤ rIn L n i := fun i hi => by
  have h1 := sumN_mono (f := fun i => L.getD i 0 * 2 ^ (n - i)) (show i + 1 ≤ n + 1 by omega)
  rw [sumN] at h1
  rw [rIn_sum h i (by omega)]; omega
theorem cIn_len (L : List Nat) (i : Nat) : ∀ (k : Nat) (m : List Nat), (cIn L i k m).length = m.length
  | 0, _ => rfl
  | k + 1, m => by rw [cIn, cStep, List.length_set, cIn_len L i k m]
theorem cOut_len (L : List Nat) (n : Nat) : ∀ i, (cOut L n i).length = n + 1
  | 0 => by simp [cOut]
  | i + 1 => by rw [cOut, cIn_len, cOut_len L n i]
theorem cIn_get {L m : List Nat} {i n : Nat} (hl : m.length = n + 1) : ∀ {k : Nat}, i + k ≤ n + 1 → ∀ j, (cIn L i k m).getD j 0 = m.getD j 0 + (if i ≤ j ∧ j < i + k then L.getD i 0 * L.getD (j - i) 0 else 0)
  | 0, _, j => by rw [cIn, if_neg (by omega)]; rfl
  | k + 1, h, j => by
    rw [cIn, cStep, getD_set _ (by rw [cIn_len]; omega), cIn_get hl (by omega), cIn_get hl (by omega)]
    by_cases hj : i + k = j
    · subst hj
      rw [if_pos rfl, if_neg (by omega), if_pos (by omega), show i + k - i = k by omega]; omega
    · rw [if_neg hj]
      congr 1
      by_cases hc : i ≤ j ∧ j < i + k
      · rw [if_pos hc, if_pos (by omega)]
      · rw [if_neg hc, if_neg (by omega)]
theorem cOut_get {L : List Nat} {n : Nat} : ∀ {i : Nat}, i ≤ n + 1 → ∀ j, j ≤ n → (cOut L n i).getD j 0 = sumN (fun i' => if i' ≤ j then L.getD i' 0 * L.getD (j - i') 0 else 0) i
  | 0, _, j, hj => by simp [cOut, sumN, List.getD_eq_getElem?_getD, List.getElem?_replicate, show j < n + 1 by omega]
  | i + 1, h, j, hj => by
    rw [cOut, cIn_get (cOut_len L n i) (by omega), cOut_get (by omega) j hj, sumN]
    congr 1
    by_cases hc : i ≤ j
    · rw [if_pos hc, if_pos (by omega)]
    · rw [if_neg hc, if_neg (by omega)]
theorem cOut_all {L : List Nat} {n j : Nat} (hj : j ≤ n) : (cOut L n (n + 1)).getD j 0 = cvo (fun k => L.getD k 0) (fun k => L.getD k 0) j := by
  rw [cOut_get (Nat.le_refl _) j hj]
  unfold cvo
  obtain ⟨d, hd⟩ : ∃ d, n + 1 = j + 1 + d := ⟨n - j, by omega⟩
  rw [hd]
  have e : ∀ d, sumN (fun i' => if i' ≤ j then L.getD i' 0 * L.getD (j - i') 0 else 0) (j + 1 + d) = sumN (fun i' => if i' ≤ j then L.getD i' 0 * L.getD (j - i') 0 else 0) (j + 1) := fun d => by
    induction d with
    | zero => rfl
    | succ d ih => rw [← Nat.add_assoc, sumN, ih, if_neg (by omega)]; rfl
  rw [e]
  exact sumN_congr fun i hi => if_pos (by omega)
end Go.Proofs.YtccalhlhdiapiaaGreatDoor
namespace Go.Proofs.YtccalhlhdiapiaaGreatDoor
open Go.RowKit
set_option linter.unusedVariables false
set_option linter.unusedSimpArgs false
theorem sdx_mod {N D : Nat} (h : N < D) : ∀ j, (sdx N D j).2 = true → (sdx N D j).1 = N * 2 ^ j % D ∧ 0 < (sdx N D j).1 ∧ (sdx N D j).1 < D
  | 0, ho => by
    simp only [sdx, decide_eq_true_eq] at ho ⊢
    rw [Nat.pow_zero, Nat.mul_one, Nat.mod_eq_of_lt h]; omega
  | j + 1, ho => by
    cases hj : (sdx N D j).2 with
    | false => rw [sdx_shut hj (j + 1) (by omega)] at ho; cases ho
    | true =>
      obtain ⟨h1, h2, h3⟩ := sdx_mod h j hj
      have e : N * 2 ^ (j + 1) % D = 2 * (sdx N D j).1 % D := by
        rw [h1, Nat.pow_succ, ← Nat.mul_assoc, Nat.mul_comm _ 2, Nat.mul_mod_mod]
      rw [e]
      rw [sdx, hj, if_pos rfl] at ho ⊢
      generalize (sdx N D j).1 = x at *
      by_cases hc : D ≤ 2 * x
      · rw [if_pos hc] at ho ⊢
        simp only [decide_eq_true_eq] at ho
        refine ⟨?_, by dsimp only; omega, by dsimp only; omega⟩
        dsimp only
        rw [Nat.mod_eq_sub_mod hc, Nat.mod_eq_of_lt (by omega)]
      · rw [if_neg hc]
        exact ⟨(Nat.mod_eq_of_lt (by omega)).symm, by dsimp only; omega, by dsimp only; omega⟩
theorem ref_toss {N D : Nat} (h : N < D) (j : Nat) :
    oneJ N D (j + 1) = ((sdx N D j).2 && decide (N * 2 ^ (j + 1) / D % 2 = 1)) ∧
    zeroJ N D (j + 1) = ((sdx N D j).2 && (!decide (N * 2 ^ (j + 1) / D % 2 = 1) || (decide (N * 2 ^ (j + 1) / D % 2 = 1) && decide (N * 2 ^ (j + 1) % D = 0)))) ∧
    (sdx N D (j + 1)).2 = ((sdx N D j).2 && !(decide (N * 2 ^ (j + 1) / D % 2 = 1) && decide (N * 2 ^ (j + 1) % D = 0))) := by
  cases hj : (sdx N D j).2 with
  | false =>
    refine ⟨by rw [oneJ, hj]; rfl, by rw [zeroJ, hj]; rfl, ?_⟩
    rw [sdx_shut hj (j + 1) (by omega)]; rfl
  | true =>
    obtain ⟨h1, h2, h3⟩ := sdx_mod h j hj
    obtain ⟨k, hk⟩ : ∃ k, N * 2 ^ j = D * k + (sdx N D j).1 := ⟨N * 2 ^ j / D, by rw [h1]; exact (Nat.div_add_mod _ _).symm⟩
    have e : N * 2 ^ (j + 1) = D * (2 * k) + 2 * (sdx N D j).1 := by
      rw [Nat.pow_succ, ← Nat.mul_assoc, hk, Nat.add_mul, Nat.mul_comm 2 k, ← Nat.mul_assoc]; omega
    rw [oneJ, zeroJ, sdx, hj, e]
    generalize (sdx N D j).1 = x at *
    clear e hk h1 hj
    simp only [Bool.true_and, if_true]
    have hD : 0 < D := by omega
    by_cases hc : D ≤ 2 * x
    · have hq : (D * (2 * k) + 2 * x) / D = 2 * k + 1 := by
        rw [Nat.mul_add_div hD, show 2 * x = D + (2 * x - D) by omega, Nat.add_div_left _ hD, Nat.div_eq_of_lt (by omega)]
      have hr : (D * (2 * k) + 2 * x) % D = 2 * x - D := by
        rw [Nat.mul_add_mod, Nat.mod_eq_sub_mod hc, Nat.mod_eq_of_lt (by omega)]
      rw [hq, hr, if_pos hc, decide_eq_true hc, decide_eq_true (show (2 * k + 1) % 2 = 1 by omega)]
      refine ⟨rfl, ?_, ?_⟩
      · simp only [Bool.not_true, Bool.false_or, Bool.true_and]
        rw [decide_eq_decide]; omega
      · simp only [Bool.true_and, ne_eq, decide_not]
        congr 1
        rw [decide_eq_decide]; omega
    · have hq : (D * (2 * k) + 2 * x) / D = 2 * k := by
        rw [Nat.mul_add_div hD, Nat.div_eq_of_lt (by omega)]; omega
      rw [hq, if_neg hc, decide_eq_false hc, decide_eq_false (show ¬ 2 * k % 2 = 1 by omega)]
      refine ⟨rfl, ?_, rfl⟩
      simp; omega
theorem cvo_pw0 (f : Nat → Nat) : cvo f pw2 0 = f 0 := by simp [cvo, sumN, pw2]
theorem cvo_pw1 (f : Nat → Nat) (n : Nat) : cvo f pw2 (n + 1) = cvo f pw2 n + cvo f pw2 n + f (n + 1) := by
  unfold cvo
  rw [sumN]
  have e : sumN (fun s => f s * pw2 (n + 1 - s)) (n + 1) = sumN (fun s => f s * pw2 (n - s)) (n + 1) + sumN (fun s => f s * pw2 (n - s)) (n + 1) := by
    rw [← sumN_add]
    refine sumN_congr fun s hs => ?_
    unfold pw2
    rw [show n + 1 - s = n - s + 1 by omega, Nat.pow_succ, Nat.mul_two, Nat.mul_add]
  rw [e, Nat.sub_self]
  simp [pw2]
def p3 (N D n i k s : Nat) (v : Int) : Nat := if (k : Int) - (i : Int) = v then sumN (fun s' => edn N D k s' * cw (n - s') (oneP N D i)) s else 0
def q3 (N D n i k : Nat) (v : Int) : Nat := sumN (fun k' => p3 N D n i k' (n + 1) v) k
def t3 (N D n i : Nat) (v : Int) : Nat := sumN (fun i' => q3 N D n i' (n + 1) v) i
def c3 (N D n i k s : Nat) (v : Int) : Nat := t3 N D n i v + q3 N D n i k v + p3 N D n i k s v
theorem p3_zero (N D n i k : Nat) (v : Int) : p3 N D n i k 0 v = 0 := by unfold p3; split <;> rfl
theorem c3_zero (N D n : Nat) : c3 N D n 0 0 0 = fun _ => 0 := by funext v; simp [c3, t3, q3, p3_zero, sumN]
theorem c3_s (N D n i k s : Nat) : c3 N D n i k (s + 1) = addM (c3 N D n i k s) ((k : Int) - (i : Int)) (edn N D k s * cw (n - s) (oneP N D i)) := by
  funext v
  unfold addM c3 p3
  by_cases h : (k : Int) - (i : Int) = v
  · subst h
    rw [if_pos rfl, if_pos rfl, if_pos rfl, sumN]; omega
  · rw [if_neg h, if_neg h, if_neg (fun e => h e.symm)]
theorem c3_k (N D n i k : Nat) : c3 N D n i k (n + 1) = c3 N D n i (k + 1) 0 := by
  funext v
  unfold c3
  rw [p3_zero]
  unfold q3
  rw [sumN]; omega
theorem c3_i (N D n i : Nat) : c3 N D n i (n + 1) 0 = c3 N D n (i + 1) 0 0 := by
  funext v
  unfold c3
  rw [p3_zero, p3_zero]
  unfold t3
  rw [sumN]
  simp only [q3, sumN]
theorem c3_end {N D : Nat} (h : N < D) (n : Nat) (v : Int) : c3 N D n (n + 1) 0 0 v = gV N D true n v := by
  rw [gV_two h]
  unfold c3
  rw [p3_zero]
  simp only [q3, sumN, Nat.add_zero]
  unfold t3 q3
  rw [sumN_swap]
  refine sumN_congr fun i _ => sumN_congr fun k _ => ?_
  unfold p3
  by_cases hv : (i : Int) - (k : Int) = v
  · rw [if_pos hv, if_pos hv, cw_twoP h k i n]
    unfold cvo
    refine sumN_congr fun s _ => ?_
    rw [cw_oneP h]
    rfl
  · rw [if_neg hv, if_neg hv]
theorem c3_le {N D n i k s : Nat} (h : N < D) (hi : i ≤ n) (hk : k ≤ n) (hs : s ≤ n + 1) (v : Int) : c3 N D n i k s v ≤ gV N D true n v := by
  rw [← c3_end h]
  have a1 : p3 N D n i k s v ≤ p3 N D n i k (n + 1) v := by
    unfold p3
    split
    · exact sumN_mono hs
    · exact Nat.le_refl _
  have a2 : q3 N D n i k v + p3 N D n i k (n + 1) v ≤ q3 N D n i (n + 1) v := by
    unfold q3
    have := sumN_mono (f := fun k' => p3 N D n i k' (n + 1) v) (show k + 1 ≤ n + 1 by omega)
    rw [sumN] at this; exact this
  have a3 : t3 N D n i v + q3 N D n i (n + 1) v ≤ t3 N D n (n + 1) v := by
    unfold t3
    have := sumN_mono (f := fun i' => q3 N D n i' (n + 1) v) (show i + 1 ≤ n + 1 by omega)
    rw [sumN] at this; exact this
  unfold c3
  rw [p3_zero]
  simp only [q3, sumN]
  unfold q3 at a1 a2 a3
  omega
theorem dec2_sum {N D : Nat} (h : N < D) (n : Nat) : sumN (fun i => (tOut (oneJ N D) (zeroJ N D) n (n + 1)).2.getD i 0 * cw (n - i) (decP N D)) (n + 1) = cw n (dec2P N D) := by
  rw [← tot_dec2 h n (Nat.le_refl n), cvo_assoc]
  unfold cvo
  refine sumN_congr fun i hi => ?_
  rw [← tot_dec h n (m := n - i) (by omega)]
  rfl
end Go.Proofs.YtccalhlhdiapiaaGreatDoor
namespace Go.Proofs.YtccalhlhdiapiaaGreatDoor
open Go.RowKit
variable {P : Program} {ops : Array Oper} {Q : Exit → Act → World → Prop} {md : Region.Mode}
def opAt : List Oper → Nat → Option Oper
  | [], _ => none
  | o :: _, 0 => some o
  | _ :: l, i + 1 => opAt l i
theorem opAt_get : ∀ (l : List Oper) (i : Nat) (o : Oper), opAt l i = some o → l.toArray[i]? = some o
  | [], _, _, h => by cases h
  | o :: _, 0, _, h => by simpa [opAt] using h
  | _ :: l, i + 1, o, h => by simpa using opAt_get l i o h
def wpPick (P : Program) (l : List Oper) (S : World → Prop) (L : Act → Prop) : List Nat → Act → Prop
  | [], a => L a
  | i :: rest, a => ∃ o, opAt l i = some o ∧ ∃ v, YieldsIf P l.toArray S o v a ∧ wpPick P l S L rest (a.put o.dst v)
def pickB (md : Region.Mode) (ops : Array Oper) : List Nat → Array Bool → Bool
  | [], _ => true
  | i :: is, listed => (Region.ready md ops listed).contains i && Region.free md ops listed i && pickB md ops is (listed.setIfInBounds i true)
def setL : List Nat → Array Bool → Array Bool
  | [], listed => listed
  | i :: is, listed => setL is (listed.setIfInBounds i true)
theorem held_pick {l : List Oper} {S : World → Prop} (hsel : Region.noSelect l.toArray = true) {g : Nat} {w : World} (hS : S w) : ∀ (is : List Nat) (listed : Array Bool) (a : Act), pickB md l.toArray is listed = true →
    wpPick P l S (fun a' => wpAnyH P md l.toArray (Only Q) S g (setL is listed) a' w) is a → wpAnyH P md l.toArray (Only Q) S (g + is.length) listed a w
  | [], _, _, _, h => h
  | i :: is, listed, a, hB, h => by
    simp only [pickB, Bool.and_eq_true] at hB
    obtain ⟨⟨hr, hf⟩, hB'⟩ := hB
    obtain ⟨o, ho, v, hy, hrest⟩ := h
    have hQ : ∀ c a w, Only Q (.panic c) (Act.put a o.dst v) w → Only Q (.panic c) a w := fun _ _ _ h => h
    exact wpAnyH_take (opAt_get _ _ _ ho) hsel hf hr hQ hy hS (held_pick hsel hS is _ _ hB' hrest)
theorem held_plain {id : Nat} {a : Act} {w : World} {l : List Oper} (is : List Nat) (g : Nat) (S : World → Prop) (hm : P.follows .mixedOrders = true) (hsel : Region.noSelect l.toArray = true) (hg : g + is.length = l.toArray.size) (hB : pickB .any l.toArray is (Array.replicate l.toArray.size false) = true) (hS : S w.drew)
    (h : wpPick P l S (fun a' => wpAnyH P .any l.toArray (Only Q) S g (setL is (Array.replicate l.toArray.size false)) a' w.drew) is a) : (Code.region id l.toArray true).wp P Q a w := by
  have h2 := held_pick (P := P) (md := .any) (Q := Q) (S := S) hsel (g := g) hS is (Array.replicate l.toArray.size false) a hB h
  rw [hg] at h2
  exact (wpIn_wide (n := 1)).1 (wpIn_region_any hm (any_plain _ _ _ _ (wpAny_of_held (S := S) _ _ _ _ h2)))
theorem held_more {l : List Oper} {S : World → Prop} {is : List Nat} {g fuel : Nat} {listed : Array Bool} {a : Act} {w : World} (hsel : Region.noSelect l.toArray = true) (hf : fuel = g + is.length) (hS : S w) (hB : pickB md l.toArray is listed = true)
    (h : wpPick P l S (fun a' => wpAnyH P md l.toArray (Only Q) S g (setL is listed) a' w) is a) : wpAnyH P md l.toArray (Only Q) S fuel listed a w := by
  rw [hf]
  exact held_pick hsel hS is listed a hB h
end Go.Proofs.YtccalhlhdiapiaaGreatDoor
namespace Go.Proofs.YtccalhlhdiapiaaGreatDoor
open Go.RowKit
variable {P : Program} {Q : Exit → Act → World → Prop}
def ThenL (P : Program) (ops : Array Oper) (Q : Exit → Act → World → Prop) (rest : List Oper) : Exit → Act → World → Prop
  | .normal, a, w => wpList P ops Q rest a w
  | e, a, w => Q e a w
theorem only_any {md : Region.Mode} {ops : Array Oper} : ∀ (fuel : Nat) (listed : Array Bool) (a : Act) (w : World), wpAny P md ops (Only Q) fuel listed a w → wpAny P md ops Q fuel listed a w := by
  intro fuel
  induction fuel with
  | zero => exact fun _ _ _ h => h
  | succ fuel ih =>
    rintro listed a w ⟨h1, h2⟩
    refine ⟨h1, fun i hi => ?_⟩
    have h := h2 i hi
    unfold wpOp at h ⊢
    split at h
    · rename_i ho
      exact ih _ _ _ h
    · rename_i o ho
      split at h
      · rename_i hw
        rw [if_pos hw]
        rcases h with h | ⟨_, a', w', h⟩
        · exact .inl (wp_turn (fun a w h => ih _ _ _ h) (fun _ _ _ h => h.elim) (fun ⟨_, _, h⟩ => h.elim) h)
        · exact h.elim
      · rename_i hw
        rw [if_neg hw]
        exact ih _ _ _ h
theorem one_last {ops : Array Oper} {oz : Oper} {Q' : Exit → Act → World → Prop} {a : Act} {w : World} (hB : splitB ops oz = true)
    (hP : ∀ c a w, Q' (.panic c) a w → Q (.panic c) a w) (hL : LetsOut Q' → LetsOut Q) (hN : ∀ a w, Q' .normal a w → oz.wp P a w (fun a w => Q .normal a w) Q ∨ (oz.asks P a w ∧ LetsOut Q))
    (h : wpAny P .any ops Q' ops.size (Array.replicate ops.size false) a w) : wpAny P .any (ops.push oz) Q (ops.push oz).size (Array.replicate (ops.push oz).size false) a w := by
  simp only [splitB, Bool.and_eq_true, List.all_eq_true, List.any_eq_true, List.mem_range, decide_eq_true_eq, Option.isNone_iff_eq_none, Array.mem_toList_iff] at hB
  obtain ⟨⟨⟨⟨h1, h2⟩, h3⟩, h4⟩, h5⟩ := hB
  have hl := wpAny_last (P := P) (md := .any) (ops := ops) (oz := oz) (fun i o ho => h1 o (Array.mem_of_getElem? ho)) h2 (fun e he _ => h3 e he)
    (fun i hi => by
      obtain ⟨e, he, hb, hon⟩ := h4 i hi
      refine ⟨e, he, hb, ?_⟩
      simp only [Bool.or_eq_true, beq_iff_eq] at hon
      refine hon.imp (fun h => h) fun hx => ?_
      split at hx
      · rename_i o ho
        simp only [List.any_eq_true, Bool.and_eq_true, beq_iff_eq, Array.mem_toList_iff] at hx
        obtain ⟨f, hf, hfb, hfo⟩ := hx
        exact ⟨o, ho, f, hf, hfb, hfo⟩
      · cases hx)
    (fun i o ho e he _ => by
      have := h5 i (Array.getElem?_eq_some_iff.1 ho).1
      rw [ho] at this
      simp only [List.all_eq_true, Array.mem_toList_iff, decide_eq_true_eq] at this
      exact this e he) hP hL hN ops.size (Array.replicate ops.size false) a w (by simp) (fun j o _ hj => by simp [Array.getD] at hj) h
  have hr : Array.replicate (ops.push oz).size false = (Array.replicate ops.size false).push false := by
    rw [Array.size_push]
    exact Array.replicate_succ
  rw [hr, Array.size_push]
  exact hl
def lastsB (l : List Oper) : Nat → Nat → Bool
  | 0, _ => true
  | k + 1, n => (match l[n]? with | some oz => splitB (l.take n).toArray oz | none => false) && lastsB l k (n + 1)
theorem any_lasts (l : List Oper) {a : Act} {w : World} : ∀ (k n : Nat), n + k = l.length → lastsB l k n = true →
    wpAny P .any (l.take n).toArray (ThenL P l.toArray Q (l.drop n)) (l.take n).toArray.size (Array.replicate (l.take n).toArray.size false) a w →
    wpAny P .any l.toArray Q l.toArray.size (Array.replicate l.toArray.size false) a w
  | 0, n, hn, _, h => by
    have e1 : l.take n = l := List.take_of_length_le (by omega)
    have e2 : l.drop n = [] := List.drop_of_length_le (by omega)
    have e3 : ThenL P l.toArray Q [] = Q := by
      funext e a w
      cases e <;> simp [ThenL, wpList]
    rw [e1, e2, e3] at h
    exact h
  | k + 1, n, hn, hB, h => by
    simp only [lastsB, Bool.and_eq_true] at hB
    obtain ⟨h1, h2⟩ := hB
    have hlt : n < l.length := by omega
    rw [List.getElem?_eq_getElem hlt] at h1
    have e1 : l.take (n + 1) = l.take n ++ [l[n]] := List.take_succ_eq_append_getElem hlt
    have e2 : l.drop n = l[n] :: l.drop (n + 1) := List.drop_eq_getElem_cons hlt
    refine any_lasts l k (n + 1) (by omega) h2 ?_
    have e3 : (l.take (n + 1)).toArray = (l.take n).toArray.push l[n] := by rw [e1]; simp
    rw [e3]
    have hgz : l[n].guard = none := by
      simp only [splitB, Bool.and_eq_true, Option.isNone_iff_eq_none] at h1
      exact h1.1.1.1.2
    refine one_last h1 (Q' := ThenL P l.toArray Q (l.drop n)) (fun _ _ _ h => h) (fun ⟨a, w, h⟩ => ⟨a, w, h⟩) (fun a w hq => ?_) h
    have hq' : wpList P l.toArray Q (l.drop n) a w := hq
    rw [e2] at hq'
    unfold wpList at hq'
    have hw : Region.wanted l[n] (yielded l.toArray a.tmps) = true := by simp [Region.wanted, hgz]
    rw [if_pos hw] at hq'
    rcases hq' with hq' | ⟨h3, h4⟩
    · exact .inl (wp_turn (fun _ _ h => h) (fun _ _ _ h => h) (fun ⟨a, w, h⟩ => ⟨a, w, h⟩) hq')
    · exact .inr ⟨h3, by obtain ⟨a, w, h⟩ := h4; exact ⟨a, w, h⟩⟩
theorem held_lasts {id : Nat} {a : Act} {w : World} {l : List Oper} (n k : Nat) (is : List Nat) (g : Nat) (S : World → Prop) (hm : P.follows .mixedOrders = true) (hk : n + k = l.length) (hlast : lastsB l k n = true) (hsel : Region.noSelect (l.take n).toArray = true) (hg : g + is.length = (l.take n).toArray.size) (hB : pickB .any (l.take n).toArray is (Array.replicate (l.take n).toArray.size false) = true) (hS : S w.drew)
    (h : wpPick P (l.take n) S (fun a' => wpAnyH P .any (l.take n).toArray (Only (ThenL P l.toArray Q (l.drop n))) S g (setL is (Array.replicate (l.take n).toArray.size false)) a' w.drew) is a) : (Code.region id l.toArray true).wp P Q a w := by
  refine wp_region_any hm (any_lasts l k n hk hlast ?_)
  have h2 := held_pick (P := P) (md := .any) (Q := ThenL P l.toArray Q (l.drop n)) (S := S) hsel (g := g) hS is (Array.replicate (l.take n).toArray.size false) a hB h
  rw [hg] at h2
  exact only_any _ _ _ _ (wpAny_of_held (S := S) _ _ _ _ h2)
end Go.Proofs.YtccalhlhdiapiaaGreatDoor
namespace Go.Proofs.YtccalhlhdiapiaaGreatDoor
open Go.RowKit
variable {P : Program} {ops : Array Oper} {Q : Exit → Act → World → Prop} {md : Region.Mode}
theorem held_op {S : World → Prop} {i : Nat} {o : Oper} {fuel : Nat} {listed : Array Bool} {a : Act} {w : World} (ho : ops[i]? = some o) (hg : o.guard = none)
    (h : wpList P ops (ThenH P md ops (Only Q) S fuel (listed.setIfInBounds i true)) [o] a w) : wpOp P ops (Only Q) i (fun a' w' => S w' ∧ wpAnyH P md ops (Only Q) S fuel (listed.setIfInBounds i true) a' w') a w := by
  unfold wpOp
  rw [ho]
  have hw : Region.wanted o (yielded ops a.tmps) = true := by simp [Region.wanted, hg]
  simp only [hw, if_true]
  unfold wpList at h
  rw [if_pos hw] at h
  rcases h with h | ⟨_, _, _, h⟩
  · left
    unfold Oper.wp at *
    generalize (execOp a.eval o).run P w = r at *
    cases r with
    | ok m w' =>
      cases m <;> simp only [Oper.upon] at h ⊢
      case value u => exact h
      case skip => exact h
      case defer d => exact h
      case enter f args =>
        refine Calls.mono h fun e w'' he => ?_
        cases e with
        | returned u => exact he
        | panicked c => exact he.elim
        | outgrown => obtain ⟨_, _, hx⟩ := he; exact hx.elim
      case row row args => exact h
    | halt x w' =>
      cases x <;> simp only [Oper.upon] at h ⊢
      case panic u => exact h.elim
  · exact h.elim
theorem held_two {S : World → Prop} {i j : Nat} {oi oj : Oper} {fuel : Nat} {listed : Array Bool} {a : Act} {w : World} (hr : Region.ready md ops listed = [i, j]) (hi : ops[i]? = some oi) (hj : ops[j]? = some oj) (hgi : oi.guard = none) (hgj : oj.guard = none)
    (h1 : wpList P ops (ThenH P md ops (Only Q) S fuel (listed.setIfInBounds i true)) [oi] a w)
    (h2 : wpList P ops (ThenH P md ops (Only Q) S fuel (listed.setIfInBounds j true)) [oj] a w) : wpAnyH P md ops (Only Q) S (fuel + 1) listed a w := by
  refine wpAnyH_all hr (by simp) fun k hk => ?_
  rcases List.mem_cons.1 hk with rfl | hk
  · exact held_op hi hgi h1
  · obtain rfl : k = j := by simpa using hk
    exact held_op hj hgj h2
end Go.Proofs.YtccalhlhdiapiaaGreatDoor
namespace Go.Proofs.YtccalhlhdiapiaaGreatDoor
open Go.RowKit Go.Shelf
open Go.Lib (decDigits nDigits)
set_option linter.unusedVariables false
set_option linter.unusedSimpArgs false
theorem f_le_cvo (f : Nat → Nat) (i : Nat) : f i ≤ cvo f pw2 i := by
  cases i with
  | zero => rw [cvo_pw0]; exact Nat.le_refl _
  | succ i => rw [cvo_pw1]; omega
theorem NRow.openA {w : World} {v : Value} {m : Nat} {f : Nat → Nat} (h : NRow w v m f) : ∃ a c, v = .slice a m c ∧ m ≤ c ∧ c ≤ 9223372036854775807 := by
  obtain ⟨a, c, h1, h2, h3, -⟩ := h.open
  exact ⟨a, c, h1, h2, h3⟩
theorem NRow.el {w : World} {a : Option Addr} {m c : Nat} {f : Nat → Nat} (h : NRow w (.slice a m c) m f) {i : Nat} (hi : i < m) : ∃ g o x, a = some ⟨g, o, none⟩ ∧ g < w.heap.size ∧ w.cell? ⟨g, o + i, none⟩ = some x ∧ IsN .i64 w x (f i) := by
  obtain ⟨a', c', e, -, -, h3⟩ := h.open
  simp only [Value.slice.injEq] at e
  obtain ⟨rfl, -, rfl⟩ := e
  exact h3 i hi
def aF (c : Nat → Bool) (f : Nat → Nat) (i j k : Nat) : Nat := sumN (fun i' => if i' ≤ k ∧ c (k - i') = true then f i' else 0) i + (if i ≤ k ∧ k < i + j ∧ c (k - i) = true then f i else 0)
theorem aF_zero {c : Nat → Bool} (f : Nat → Nat) (h0 : c 0 = false) (k : Nat) : aF c f 0 1 k = 0 := by
  unfold aF
  rw [sumN, if_neg]
  intro ⟨_, h2, h3⟩
  obtain rfl : k = 0 := by omega
  rw [h0] at h3; cases h3
theorem aF_skip {c : Nat → Bool} {f : Nat → Nat} {i j : Nat} (h : c j = false) (k : Nat) : aF c f i (j + 1) k = aF c f i j k := by
  unfold aF
  congr 1
  by_cases hc : i ≤ k ∧ k < i + j ∧ c (k - i) = true
  · rw [if_pos hc, if_pos ⟨hc.1, by omega, hc.2.2⟩]
  · rw [if_neg hc, if_neg]
    intro ⟨h1, h2, h3⟩
    by_cases he : k = i + j
    · rw [he, show i + j - i = j by omega, h] at h3; cases h3
    · exact hc ⟨h1, by omega, h3⟩
theorem aF_step {c : Nat → Bool} {f : Nat → Nat} {i j : Nat} (h : c j = true) (k : Nat) : aF c f i (j + 1) k = if k = i + j then aF c f i j k + f i else aF c f i j k := by
  by_cases he : k = i + j
  · rw [if_pos he]
    unfold aF
    rw [if_pos ⟨by omega, by omega, by rw [he, show i + j - i = j by omega]; exact h⟩, if_neg (by omega)]
    rfl
  · rw [if_neg he]
    unfold aF
    congr 1
    by_cases hc : i ≤ k ∧ k < i + j ∧ c (k - i) = true
    · rw [if_pos hc, if_pos ⟨hc.1, by omega, hc.2.2⟩]
    · rw [if_neg hc, if_neg]
      intro ⟨h1, h2, h3⟩
      exact hc ⟨h1, by omega, h3⟩
theorem aF_next {c : Nat → Bool} {f : Nat → Nat} {n i k : Nat} (h0 : c 0 = false) (hi : i ≤ n) (hk : k ≤ n) : aF c f i (n + 1 - i) k = aF c f (i + 1) 1 k := by
  have e1 : (if i + 1 ≤ k ∧ k < i + 1 + 1 ∧ c (k - (i + 1)) = true then f (i + 1) else 0) = 0 := if_neg fun ⟨h1, h2, h3⟩ => by
    obtain rfl : k = i + 1 := by omega
    rw [Nat.sub_self, h0] at h3; cases h3
  have e2 : (if i ≤ k ∧ k < i + (n + 1 - i) ∧ c (k - i) = true then f i else 0) = (if i ≤ k ∧ c (k - i) = true then f i else 0) := by
    by_cases hc : i ≤ k ∧ c (k - i) = true
    · rw [if_pos hc, if_pos ⟨hc.1, by omega, hc.2⟩]
    · rw [if_neg hc, if_neg (fun ⟨h1, _, h3⟩ => hc ⟨h1, h3⟩)]
  unfold aF
  rw [e1, e2, Nat.add_zero]
  rfl
theorem aF_end {c : Nat → Bool} {f : Nat → Nat} {n k : Nat} (hk : k ≤ n) : aF c f (n + 1) 1 k = cvo (chi c) f k := by
  unfold aF
  rw [if_neg (by omega), Nat.add_zero]
  exact sum_upto (by omega)
theorem aF_le {c : Nat → Bool} {f : Nat → Nat} {n i j k : Nat} (hi : i ≤ n) (hk : k ≤ n) : aF c f i j k ≤ cvo (chi c) f k := by
  rw [← sum_upto (c := c) (f := f) (k := k) (m := n + 1) (by omega)]
  refine Nat.le_trans ?_ (sumN_mono (show i + 1 ≤ n + 1 by omega))
  unfold aF
  rw [sumN]
  refine Nat.add_le_add_left ?_ _
  by_cases hc : i ≤ k ∧ k < i + j ∧ c (k - i) = true
  · rw [if_pos hc, if_pos ⟨hc.1, hc.2.2⟩]; exact Nat.le_refl _
  · rw [if_neg hc]; exact Nat.zero_le _
set_option maxRecDepth 100000 in
set_option maxHeartbeats 4000000 in
theorem er_within (w : World) (v : Value) (n : Nat) (f : Nat → Nat) (hn : n ≤ 1000) (hv : NRow w v (n + 1) f) (hd : ∀ i, i ≤ n → nDigits (cvo f pw2 i) ≤ 4000) :
    Calls Tryz.prog 69 #[v] w fun e w' => (∃ g c, e = .returned (.slice (some ⟨g, 0, none⟩) (n + 1) c) ∧ NTab w.heap.size w' g (n + 1) c (cvo f pw2)) ∧ Below w.heap.size w w' := by
  obtain ⟨a, cv, rfl, q1, q2⟩ := hv.openA
  have HEL : Hid (∀ i, i < n + 1 → ∃ g o x, a = some ⟨g, o, none⟩ ∧ g < w.heap.size ∧ w.cell? ⟨g, o + i, none⟩ = some x ∧ IsN .i64 w x (f i)) := fun i hi => hv.el hi
  have HLF : Hid (∀ i, i ≤ n → (limbs (f i)).length ≤ 1000000 ∧ (limbs (cvo f pw2 i)).length ≤ 1000000) := fun i hi => ⟨num_limbs (Nat.le_trans (nDigits_mono (f_le_cvo f i)) (hd i hi)), num_limbs (hd i hi)⟩
  have HL2 : Hid (∀ i, i + 1 ≤ n → (limbs (cvo f pw2 i + cvo f pw2 i)).length ≤ 1000000) := fun i hi => num_limbs (Nat.le_trans (nDigits_mono (by rw [cvo_pw1]; omega)) (hd (i + 1) hi))
  have HZ := fun V => hid (er_zeros V n hn)
  have HN := hid hn
  have wn : IntKind.i64.wrap (((n + 1 : Nat) : Int) - 1) = (n : Int) := by rw [IntWalk.i64_in _ ⟨by omega, by omega⟩]; omega
  have wn' : IntKind.i64.wrap ((n : Int) + 1 - 1) = (n : Int) := by rw [IntWalk.i64_in _ ⟨by omega, by omega⟩]; omega
  clear hn hv hd
  go_enter Tryz.func69, Tryz.ntmps69
  go_wp2_with fail
  refine (HZ _).out.mono ?_; rintro e w1 ⟨⟨g, c, rfl, ht⟩, hb1⟩
  have T0 : Hid (NTab w.heap.size w1 g (n + 1) c (fun j => if j < 0 then cvo f pw2 j else 0)) := ht.fn fun i _ => by rw [if_neg (by omega)]
  have B1 := hid hb1
  clear ht hb1
  go_wp2_with fail
  go_loopw [4] (fun s4 wr => ∃ i : Nat, s4 = .int .i64 (i : Nat) ∧ i ≤ n + 1 ∧ Hid (NTab w.heap.size wr g (n + 1) c (fun j => if j < i then cvo f pw2 j else 0)) ∧ Hid (Below w.heap.size w wr)) (fun s4 wr => n + 1 - (intOf s4).toNat)
  case atStart => exact ⟨0, rfl, Nat.zero_le _, T0, B1⟩
  case round =>
    clear T0 B1
    obtain ⟨i, rfl, hi, hT, hB⟩ := hrel
    by_cases hlt : i < n + 1
    · have q0 : decide ((i : Int) < ((n + 1 : Nat) : Int)) = true := by simp; omega
      have d0 : decide ((i : Int) < (n : Int) + 1) = true := by simp; omega
      have f0 : (0 : Int) ≤ (i : Int) := by omega
      have f1 : (i : Int) < ((n + 1 : Nat) : Int) := by omega
      have f1' : (i : Int) < (n : Int) + 1 := by omega
      have IL := hid hlt
      obtain ⟨gl, ol, y, rfl, hgl, hy1, hy2⟩ := HEL.out i hlt
      have cy := (hB.out.cell (cell_lt hy1)).trans hy1
      have YN := hid (hy2.call hB.out)
      have YW := hid hy2; have CY := hid hy1
      have wi : IntKind.i64.wrap ((i : Int) + 1) = ((i + 1 : Nat) : Int) := by have := HN.out; rw [IntWalk.i64_in _ ⟨by omega, by omega⟩]; omega
      rcases Nat.eq_zero_or_pos i with h0 | h0
      · have d2 : decide ((0 : Int) < (i : Int)) = false := by simp; omega
        have d2' : decide (0 < i) = false := by simp; omega
        obtain ⟨x, cx, hx, -⟩ := hT.out.at hlt
        rw [if_neg (by omega)] at hx
        have XN := hid hx
        have I0 := hid h0
        clear hi hlt hx hy1 hy2 hgl h0
        go_wp2_with fail
        refine held_lasts 11 2 [0, 1, 2, 3, 4, 5, 6, 7, 8, 9] 1 (fun W' => W'.cell? ⟨g, i, none⟩ = some x ∧ W'.cell? ⟨gl, ol + i, none⟩ = some y) (by kernel_rfl) rfl (by kernel_rfl) (by kernel_rfl) (by kernel_rfl) (by kernel_rfl) ⟨cx, cy⟩ ?_
        iterate 10
          refine ⟨_, rfl, ?_⟩
          apply Exists.intro
          refine ⟨.inl ⟨by rfl, ?_⟩, ?_⟩
          · (intro W' hW'; obtain ⟨r1, r2⟩ := hW'; go_simp; try (with_reducible rfl))
          (dsimp only [Act.put]; try simp only [List.setIfInBounds_toArray, List.set_cons_zero, List.set_cons_succ])
        refine held_one (i := 10) (by kernel_rfl) (by rfl) (by rfl) ?_
        go_wp2_with fail
        refine (r1_PlusF _ _ _ _ _ (XN.out.call (Below.refl _ _).drew) (YN.out.call (Below.refl _ _).drew) (by rw [limbs_zero]; simp) (HLF.out i (by have := IL.out; omega)).1).mono ?_; rintro e w5 ⟨⟨zz, rfl, hz, hf⟩, hbc⟩
        obtain ⟨az1, cz1, rfl, -, -, -⟩ := hz.openI
        obtain ⟨lz1, hlz⟩ : ∃ l, (limbs (0 + f i)).length = l := ⟨_, rfl⟩
        rw [hlz] at hz hf ⊢
        clear hlz
        have C1 := hid (show Below wr.heap.size wr w5 from (Below.refl _ _).drew.trans hbc)
        have T1 := hid (hT.out.call C1.out)
        have Z1 := hid hz
        have FZ1 : Hid (∀ g', (Value.slice az1 lz1 cz1).ownBlock = some g' → w.heap.size ≤ g' ∧ g' ≠ g) := fun g' hg => by
          have h1 : wr.heap.size ≤ g' := hf g' hg
          have h2 := hT.out.slot
          have h3 := hB.out.size
          exact ⟨by omega, by omega⟩
        have m1 := (C1.out.cell (cell_lt cx)).trans cx
        have m2 := (C1.out.cell (cell_lt cy)).trans cy
        have B5 := hid (hB.out.trans (C1.out.mono hB.out.size))
        clear hz hf hbc cx cy
        go_wp2_with fail
        refine ⟨⟨m1, m2⟩, ?_⟩
        refine wpAnyH_done (by kernel_rfl) ?_ _
        simp only [Only, ThenL, List.drop_succ_cons, List.drop_zero]
        have m3 := T1.out.slot.2.2.2.2 i
        have T2 : Hid (NTab w.heap.size (w5.setCell ⟨g, i, none⟩ (.slice az1 lz1 cz1)) g (n + 1) c (fun j => if j < i + 1 then cvo f pw2 j else 0)) := (T1.out.put i Z1.out (.inr FZ1.out)).fn fun j hj => by
          have := I0.out
          by_cases e : j = i
          · rw [if_pos e, if_pos (by omega), e, this, cvo_pw0, Nat.zero_add]
          · rw [if_neg e, if_neg (by omega), if_neg (by omega)]
        have B6 := hid (B5.out.setCell (p := ⟨g, i, none⟩) (by have := hT.out.slot.1; exact this) (.slice az1 lz1 cz1))
        go_wp2_with fail
        try simp only [Only]
        go_roundw
        case rel => exact ⟨i + 1, by go_num, by have := IL.out; omega, T2, B6⟩
        case measure => simp [intOf] <;> (have := IL.out; omega)
      · obtain ⟨i', rfl⟩ : ∃ i', i = i' + 1 := ⟨i - 1, by omega⟩
        have d2 : decide ((0 : Int) < ((i' + 1 : Nat) : Int)) = true := by simp <;> omega
        have d2' : decide (0 < i' + 1) = true := by simp
        have d2'' : decide ((0 : Int) < (i' : Int) + 1) = true := by simp <;> omega
        have w5a : IntKind.i64.wrap (i' : Int) = (i' : Int) := by have := HN.out; rw [IntWalk.i64_in _ ⟨by omega, by omega⟩]
        have w5' : IntKind.i64.wrap (((i' + 1 : Nat) : Int) - 1) = (i' : Int) := by have := HN.out; rw [IntWalk.i64_in _ ⟨by omega, by omega⟩] <;> omega
        have w5'' : IntKind.i64.wrap ((i' : Int) + 1 - 1) = (i' : Int) := by have := HN.out; rw [IntWalk.i64_in _ ⟨by omega, by omega⟩] <;> omega
        have f2 : (0 : Int) ≤ (i' : Int) := by omega
        have f3 : (i' : Int) < ((n + 1 : Nat) : Int) := by omega
        have f3' : (i' : Int) < (n : Int) + 1 := by omega
        have f8 : (0 : Int) ≤ (i' : Int) + 1 := by omega
        have f9 : (i' : Int) + 1 < ((n + 1 : Nat) : Int) := by omega
        have f9' : (i' : Int) + 1 < (n : Int) + 1 := by omega
        have f9a : (i' : Int) < (n : Int) := by omega
        have f10 : ((i' : Int) + 1).toNat = i' + 1 := by omega
        obtain ⟨x1, cx1, hx1, -⟩ := hT.out.at (i := i') (by omega)
        rw [if_pos (by omega)] at hx1
        have XN1 := hid hx1
        obtain ⟨x0, cx0, -, -⟩ := hT.out.at hlt
        clear hi hlt hx1 hy1 hy2 hgl h0
        go_wp2_with fail
        refine held_lasts 13 2 [0, 1, 2, 3, 4, 5, 6, 7, 8, 9, 10, 11] 1 (fun W' => W'.cell? ⟨g, i', none⟩ = some x1 ∧ W'.cell? ⟨g, i' + 1, none⟩ = some x0) (by kernel_rfl) rfl (by kernel_rfl) (by kernel_rfl) (by kernel_rfl) (by kernel_rfl) ⟨cx1, cx0⟩ ?_
        iterate 12
          refine ⟨_, rfl, ?_⟩
          apply Exists.intro
          refine ⟨.inl ⟨by rfl, ?_⟩, ?_⟩
          · (intro W' hW'; obtain ⟨r1, r2⟩ := hW'; go_simp; try (with_reducible rfl))
          (dsimp only [Act.put]; try simp only [List.setIfInBounds_toArray, List.set_cons_zero, List.set_cons_succ])
        refine held_one (i := 12) (by kernel_rfl) (by rfl) (by rfl) ?_
        go_wp2_with fail
        refine (r1_PlusF _ _ _ _ _ (XN1.out.call (Below.refl _ _).drew) (XN1.out.call (Below.refl _ _).drew) (HLF.out i' (by have := IL.out; omega)).2 (HLF.out i' (by have := IL.out; omega)).2).mono ?_; rintro e w5 ⟨⟨zz, rfl, hz, hf⟩, hbc⟩
        obtain ⟨az1, cz1, rfl, -, -, -⟩ := hz.openI
        obtain ⟨lz1, hlz⟩ : ∃ l, (limbs (cvo f pw2 i' + cvo f pw2 i')).length = l := ⟨_, rfl⟩
        rw [hlz] at hz hf ⊢
        clear hlz
        have C1 := hid (show Below wr.heap.size wr w5 from (Below.refl _ _).drew.trans hbc)
        have T1 := hid (hT.out.call C1.out)
        have Z1 := hid hz
        have FZ1 : Hid (∀ g', (Value.slice az1 lz1 cz1).ownBlock = some g' → w.heap.size ≤ g' ∧ g' ≠ g) := fun g' hg => by
          have h1 : wr.heap.size ≤ g' := hf g' hg
          have h2 := hT.out.slot
          have h3 := hB.out.size
          exact ⟨by omega, by omega⟩
        have m1 := (C1.out.cell (cell_lt cx1)).trans cx1
        have m2 := (C1.out.cell (cell_lt cx0)).trans cx0
        have B5 := hid (hB.out.trans (C1.out.mono hB.out.size))
        have cy5 := (C1.out.cell (cell_lt cy)).trans cy
        have YN5 := hid (YN.out.call C1.out)
        clear hz hf hbc
        go_wp2_with fail
        refine ⟨⟨m1, m2⟩, ?_⟩
        refine wpAnyH_done (by kernel_rfl) ?_ _
        simp only [Only, ThenL, List.drop_succ_cons, List.drop_zero]
        have m3 := T1.out.slot.2.2.2.2 (i' + 1)
        have T2 := hid (T1.out.put (i' + 1) Z1.out (.inr FZ1.out))
        have B6 := hid (B5.out.setCell (p := ⟨g, i' + 1, none⟩) (by have := hT.out.slot.1; exact this) (.slice az1 lz1 cz1))
        have NEL : Hid (gl ≠ g) := by
          have h1 := cell_lt CY.out
          have h2 := hT.out.slot.1
          show gl ≠ g
          intro e
          rw [e] at h1
          simp at h1
          omega
        have cy6 : (w5.setCell ⟨g, i' + 1, none⟩ (.slice az1 lz1 cz1)).cell? ⟨gl, ol + (i' + 1), none⟩ = some y := by
          rw [← cy5]
          unfold World.setCell World.cell?
          simp [Array.getElem?_modify, Ne.symm NEL.out]
        have YN6 : Hid (IsN .i64 (w5.setCell ⟨g, i' + 1, none⟩ (.slice az1 lz1 cz1)) y (f (i' + 1))) := YW.out.call B6.out
        obtain ⟨w6, hw6⟩ : ∃ W, w5.setCell ⟨g, i' + 1, none⟩ (.slice az1 lz1 cz1) = W := ⟨_, rfl⟩
        clear m1 cy5 cx1 cx0 cy
        go_wp2_with fail
        try simp only [Only]
        rw [hw6] at T2 B6 cy6 YN6
        try rw [hw6]
        clear hw6 m2 m3
        obtain ⟨x, cx, hx, -⟩ := T2.out.at (i := i' + 1) IL.out
        simp only [if_true] at hx
        have XN := hid hx
        clear hx
        refine held_lasts 11 2 [0, 1, 2, 3, 4, 5, 6, 7, 8, 9] 1 (fun W' => W'.cell? ⟨g, i' + 1, none⟩ = some x ∧ W'.cell? ⟨gl, ol + (i' + 1), none⟩ = some y) (by kernel_rfl) rfl (by kernel_rfl) (by kernel_rfl) (by kernel_rfl) (by kernel_rfl) ⟨cx, cy6⟩ ?_
        iterate 10
          refine ⟨_, rfl, ?_⟩
          apply Exists.intro
          refine ⟨.inl ⟨by rfl, ?_⟩, ?_⟩
          · (intro W' hW'; obtain ⟨r1, r2⟩ := hW'; go_simp; try (with_reducible rfl))
          (dsimp only [Act.put]; try simp only [List.setIfInBounds_toArray, List.set_cons_zero, List.set_cons_succ])
        refine held_one (i := 10) (by kernel_rfl) (by rfl) (by rfl) ?_
        go_wp2_with fail
        refine (r1_PlusF _ _ _ _ _ (XN.out.call (Below.refl _ _).drew) (YN6.out.call (Below.refl _ _).drew) (HL2.out i' (by have := IL.out; omega)) (HLF.out (i' + 1) (by have := IL.out; omega)).1).mono ?_; rintro e w7 ⟨⟨zz, rfl, hz, hf⟩, hbc⟩
        obtain ⟨az2, cz2, rfl, -, -, -⟩ := hz.openI
        obtain ⟨lz2, hlz⟩ : ∃ l, (limbs (cvo f pw2 i' + cvo f pw2 i' + f (i' + 1))).length = l := ⟨_, rfl⟩
        rw [hlz] at hz hf ⊢
        clear hlz
        have C2 := hid (show Below w6.heap.size w6 w7 from (Below.refl _ _).drew.trans hbc)
        have T3 := hid (T2.out.call C2.out)
        have Z2 := hid hz
        have FZ2 : Hid (∀ g', (Value.slice az2 lz2 cz2).ownBlock = some g' → w.heap.size ≤ g' ∧ g' ≠ g) := fun g' hg => by
          have h1 : w6.heap.size ≤ g' := hf g' hg
          have h2 := T2.out.slot
          have h3 := B6.out.size
          exact ⟨by omega, by omega⟩
        have m1 := (C2.out.cell (cell_lt cx)).trans cx
        have m2 := (C2.out.cell (cell_lt cy6)).trans cy6
        have B7 := hid (B6.out.trans (C2.out.mono B6.out.size))
        clear hz hf hbc cx cy6
        go_wp2_with fail
        refine ⟨⟨m1, m2⟩, ?_⟩
        refine wpAnyH_done (by kernel_rfl) ?_ _
        simp only [Only, ThenL, List.drop_succ_cons, List.drop_zero]
        have m3 := T3.out.slot.2.2.2.2 (i' + 1)
        have T4 : Hid (NTab w.heap.size (w7.setCell ⟨g, i' + 1, none⟩ (.slice az2 lz2 cz2)) g (n + 1) c (fun j => if j < i' + 1 + 1 then cvo f pw2 j else 0)) := (T3.out.put (i' + 1) Z2.out (.inr FZ2.out)).fn fun j hj => by
          by_cases e : j = i' + 1
          · rw [if_pos e, if_pos (by omega), e, cvo_pw1]
          · rw [if_neg e, if_neg e]
            by_cases e2 : j < i' + 1
            · rw [if_pos e2, if_pos (by omega)]
            · rw [if_neg e2, if_neg (by omega)]
        have B8 := hid (B7.out.setCell (p := ⟨g, i' + 1, none⟩) (by have := hT.out.slot.1; exact this) (.slice az2 lz2 cz2))
        go_wp2_with fail
        try simp only [Only]
        go_roundw
        case rel => exact ⟨i' + 1 + 1, by go_num, by have := IL.out; omega, T4, B8⟩
        case measure => simp [intOf] <;> (have := IL.out; omega)
    · have q0 : decide ((i : Int) < ((n + 1 : Nat) : Int)) = false := by simp; omega
      have d0 : decide ((i : Int) < (n : Int) + 1) = false := by simp; omega
      have e1 : i = n + 1 := by omega
      subst e1
      have TE : Hid (NTab w.heap.size wr g (n + 1) c (cvo f pw2)) := hT.out.fn fun i hi => by rw [if_pos hi]
      clear hi hlt
      go_wp2_with fail
      go_ret
      exact ⟨⟨g, c, rfl, TE.out⟩, hB.out⟩
set_option maxRecDepth 100000 in
set_option maxHeartbeats 4000000 in
theorem er_after (w : World) (v u : Value) (n : Nat) (f : Nat → Nat) (b : Nat → Bool) (hn : n ≤ 1000) (hv : NRow w v (n + 1) f) (hu : Row w u ((List.range (n + 1)).map fun j => .bool (b j))) (h0 : b 0 = false) (hd : ∀ i, i ≤ n → nDigits (cvo (chi b) f i) ≤ 4000 ∧ nDigits (f i) ≤ 4000) :
    Calls Tryz.prog 119 #[v, u] w fun e w' => (∃ g c, e = .returned (.slice (some ⟨g, 0, none⟩) (n + 1) c) ∧ NTab w.heap.size w' g (n + 1) c (cvo (chi b) f)) ∧ Below w.heap.size w w' := by
  obtain ⟨a, cv, rfl, q1, q2⟩ := hv.openA
  have HEL : Hid (∀ i, i < n + 1 → ∃ g o x, a = some ⟨g, o, none⟩ ∧ g < w.heap.size ∧ w.cell? ⟨g, o + i, none⟩ = some x ∧ IsN .i64 w x (f i)) := fun i hi => hv.el hi
  obtain ⟨ab, cb, rfl, p1, p2, p3⟩ := hu.ex
  have HBL : Hid (∀ i, i < n + 1 → ∃ g o, ab = some ⟨g, o, none⟩ ∧ w.cell? ⟨g, o + i, none⟩ = some (.bool (b i))) := fun i hi => by
    obtain ⟨g, o, h1, h2, h3⟩ := p3 i (.bool (b i)) (by rw [List.getElem?_map, List.getElem?_range hi]; rfl)
    exact ⟨g, o, h1, h3⟩
  rw [List.length_map, List.length_range] at p1 ⊢
  have HLF : Hid (∀ i, i ≤ n → (limbs (f i)).length ≤ 1000000) := fun i hi => num_limbs (hd i hi).2
  have HLA : Hid (∀ i j k, i ≤ n → k ≤ n → (limbs (aF b f i j k)).length ≤ 1000000) := fun i j k hi hk => num_limbs (Nat.le_trans (nDigits_mono (aF_le hi hk)) (hd k hk).1)
  have HZ := fun V => hid (er_zeros V n hn)
  have HN := hid hn; have H0 := hid h0
  have wn : IntKind.i64.wrap (((n + 1 : Nat) : Int) - 1) = (n : Int) := by rw [IntWalk.i64_in _ ⟨by omega, by omega⟩]; omega
  have wn' : IntKind.i64.wrap ((n : Int) + 1 - 1) = (n : Int) := by rw [IntWalk.i64_in _ ⟨by omega, by omega⟩]; omega
  clear hn hv hd hu p3 h0
  go_enter Tryz.func119, Tryz.ntmps119
  go_wp2_with fail
  refine (HZ _).out.mono ?_; rintro e w1 ⟨⟨g, c, rfl, ht⟩, hb1⟩
  have T0 : Hid (NTab w.heap.size w1 g (n + 1) c (aF b f 0 1)) := ht.fn fun i _ => (aF_zero f H0.out i).symm
  have B1 := hid hb1
  clear ht hb1
  go_wp2_with fail
  go_loopw [6] (fun s6 wr => ∃ i : Nat, s6 = .int .i64 (i : Nat) ∧ i ≤ n + 1 ∧ Hid (NTab w.heap.size wr g (n + 1) c (aF b f i 1)) ∧ Hid (Below w.heap.size w wr)) (fun s6 wr => n + 1 - (intOf s6).toNat)
  case atStart => exact ⟨0, rfl, Nat.zero_le _, T0, B1⟩
  case round =>
    clear T0 B1
    obtain ⟨i, rfl, hi, hT, hB⟩ := hrel
    by_cases hlt : i < n + 1
    · have q0 : decide ((i : Int) < ((n + 1 : Nat) : Int)) = true := by simp; omega
      have d0 : decide ((i : Int) < (n : Int) + 1) = true := by simp; omega
      have f0 : (0 : Int) ≤ (i : Int) := by omega
      have f1 : (i : Int) < ((n + 1 : Nat) : Int) := by omega
      have f1' : (i : Int) < (n : Int) + 1 := by omega
      have f9 : (i : Int) ≤ 1000 := by have := HN.out; omega
      have IL := hid hlt
      obtain ⟨gl, ol, y, rfl, hgl, hy1, hy2⟩ := HEL.out i hlt
      have YW := hid hy2; have CY := hid hy1
      have NEL : Hid (gl < w.heap.size) := hgl
      clear hi hlt hy1 hy2 hgl
      go_wp2_with fail
      go_loopw [7] (fun s7 wq => ∃ j : Nat, s7 = .int .i64 (j : Nat) ∧ 1 ≤ j ∧ (i + j ≤ n + 1 ∨ j = 1) ∧ Hid (NTab w.heap.size wq g (n + 1) c (aF b f i j)) ∧ Hid (Below w.heap.size w wq)) (fun s7 wq => n + 2 - (intOf s7).toNat)
      case atStart => exact ⟨1, rfl, Nat.le_refl _, .inr rfl, hT, hB⟩
      case round =>
        clear hT hB
        obtain ⟨j, rfl, hj1, hj, hT, hB⟩ := hrel
        have wij : IntKind.i64.wrap ((i : Int) + (j : Int)) = (i : Int) + (j : Int) := by have := HN.out; rw [IntWalk.i64_in _ ⟨by omega, by omega⟩]
        by_cases hlt : i + j < n + 1
        · have q1 : decide ((i : Int) + (j : Int) < ((n + 1 : Nat) : Int)) = true := by simp; omega
          have d1 : decide ((i : Int) + (j : Int) < (n : Int) + 1) = true := by simp; omega
          have f2 : (0 : Int) ≤ (j : Int) := by omega
          have f3 : (j : Int) < ((n + 1 : Nat) : Int) := by omega
          have f3' : (j : Int) < (n : Int) + 1 := by omega
          have f4 : (0 : Int) ≤ (i : Int) + (j : Int) := by omega
          have f5 : (i : Int) + (j : Int) < ((n + 1 : Nat) : Int) := by omega
          have f5' : (i : Int) + (j : Int) < (n : Int) + 1 := by omega
          have f6 : (j : Int) ≤ 1000 := by have := HN.out; omega
          have et : ((i : Int) + (j : Int)).toNat = i + j := by omega
          have JL := hid hlt
          obtain ⟨gb, ob, rfl, hb1⟩ := HBL.out j (by omega)
          have cb1 := (hB.out.cell (cell_lt hb1)).trans hb1
          obtain ⟨bj, hbj⟩ : ∃ t, b j = t := ⟨_, rfl⟩
          rw [hbj] at cb1
          have HBJ := hid hbj
          have J1 := hid hj1
          clear hj hlt hb1 hbj
          cases bj
          · have T2 : Hid (NTab w.heap.size wr g (n + 1) c (aF b f i (j + 1))) := hT.out.fn fun k _ => (aF_skip HBJ.out k).symm
            clear hj1
            go_wp2_with fail
            go_roundw
            case rel => exact ⟨j + 1, by go_num, by omega, .inl (by have := JL.out; omega), T2, hB⟩
            case measure => simp [intOf] <;> (have := JL.out; omega)
          · obtain ⟨x, cx, hx, -⟩ := hT.out.at (i := i + j) JL.out
            have XN := hid hx
            have cy := (hB.out.cell (cell_lt CY.out)).trans CY.out
            have YN := hid (YW.out.call hB.out)
            clear hx hj1
            go_wp2_with fail
            refine held_lasts 15 2 [0, 1, 2, 3, 4, 5, 6, 7, 8, 9, 10, 11, 12, 13] 1 (fun W' => W'.cell? ⟨g, i + j, none⟩ = some x ∧ W'.cell? ⟨gl, ol + i, none⟩ = some y) (by kernel_rfl) rfl (by kernel_rfl) (by kernel_rfl) (by kernel_rfl) (by kernel_rfl) ⟨cx, cy⟩ ?_
            iterate 14
              refine ⟨_, rfl, ?_⟩
              apply Exists.intro
              refine ⟨.inl ⟨by rfl, ?_⟩, ?_⟩
              · (intro W' hW'; obtain ⟨r1, r2⟩ := hW'; go_simp; try (with_reducible rfl))
              (dsimp only [Act.put]; try simp only [List.setIfInBounds_toArray, List.set_cons_zero, List.set_cons_succ])
            refine held_one (i := 14) (by kernel_rfl) (by rfl) (by rfl) ?_
            go_wp2_with fail
            refine (r1_PlusF _ _ _ _ _ (XN.out.call (Below.refl _ _).drew) (YN.out.call (Below.refl _ _).drew) (HLA.out i j (i + j) (by have := IL.out; omega) (by have := JL.out; omega)) (HLF.out i (by have := IL.out; omega))).mono ?_; rintro e w5 ⟨⟨zz, rfl, hz, hf⟩, hbc⟩
            obtain ⟨az1, cz1, rfl, -, -, -⟩ := hz.openI
            obtain ⟨lz1, hlz⟩ : ∃ l, (limbs (aF b f i j (i + j) + f i)).length = l := ⟨_, rfl⟩
            rw [hlz] at hz hf ⊢
            clear hlz
            have C1 := hid (show Below wr.heap.size wr w5 from (Below.refl _ _).drew.trans hbc)
            have T1 := hid (hT.out.call C1.out)
            have Z1 := hid hz
            have FZ1 : Hid (∀ g', (Value.slice az1 lz1 cz1).ownBlock = some g' → w.heap.size ≤ g' ∧ g' ≠ g) := fun g' hg => by
              have h1 : wr.heap.size ≤ g' := hf g' hg
              have h2 := hT.out.slot
              have h3 := hB.out.size
              exact ⟨by omega, by omega⟩
            have m1 := (C1.out.cell (cell_lt cx)).trans cx
            have m2 := (C1.out.cell (cell_lt cy)).trans cy
            have B5 := hid (hB.out.trans (C1.out.mono hB.out.size))
            clear hz hf hbc cx cy cb1
            go_wp2_with fail
            refine ⟨⟨m1, m2⟩, ?_⟩
            refine wpAnyH_done (by kernel_rfl) ?_ _
            simp only [Only, ThenL, List.drop_succ_cons, List.drop_zero]
            have m3 := T1.out.slot.2.2.2.2 (i + j)
            have T2 : Hid (NTab w.heap.size (w5.setCell ⟨g, i + j, none⟩ (.slice az1 lz1 cz1)) g (n + 1) c (aF b f i (j + 1))) := (T1.out.put (i + j) Z1.out (.inr FZ1.out)).fn fun k hk => by
              rw [aF_step HBJ.out]
              by_cases e : k = i + j
              · rw [if_pos e, if_pos e, e]
              · rw [if_neg e, if_neg e]
            have B6 := hid (B5.out.setCell (p := ⟨g, i + j, none⟩) (by have := hT.out.slot.1; exact this) (.slice az1 lz1 cz1))
            go_wp2_with fail
            try simp only [Only]
            go_roundw
            case rel => exact ⟨j + 1, by go_num, by have := J1.out; omega, .inl (by have := JL.out; omega), T2, B6⟩
            case measure => simp [intOf] <;> (have := JL.out; omega)
        · have q1 : decide ((i : Int) + (j : Int) < ((n + 1 : Nat) : Int)) = false := by simp; omega
          have d1 : decide ((i : Int) + (j : Int) < (n : Int) + 1) = false := by simp; omega
          have f6 : (j : Int) ≤ 1002 := by have := HN.out; omega
          have e1 : j = n + 1 - i ∨ (i = n ∧ j = 1) := by have := IL.out; omega
          have e2 : j = n + 1 - i := by have := IL.out; omega
          subst e2
          have T2 : Hid (NTab w.heap.size wr g (n + 1) c (aF b f (i + 1) 1)) := hT.out.fn fun k hk => aF_next H0.out (by have := IL.out; omega) (by omega)
          clear hj hlt hj1 e1
          go_wp2_with fail
          go_roundw
          case rel => exact ⟨i + 1, by go_num, by have := IL.out; omega, T2, hB⟩
          case measure => simp [intOf] <;> (have := IL.out; omega)
    · have q0 : decide ((i : Int) < ((n + 1 : Nat) : Int)) = false := by simp; omega
      have d0 : decide ((i : Int) < (n : Int) + 1) = false := by simp; omega
      have e1 : i = n + 1 := by omega
      subst e1
      have TE : Hid (NTab w.heap.size wr g (n + 1) c (cvo (chi b) f)) := hT.out.fn fun i hi => aF_end (by omega)
      clear hi hlt
      go_wp2_with fail
      go_ret
      exact ⟨⟨g, c, rfl, TE.out⟩, hB.out⟩
end Go.Proofs.YtccalhlhdiapiaaGreatDoor
namespace Go.Proofs.YtccalhlhdiapiaaGreatDoor
open Go.RowKit
set_option linter.unusedVariables false
variable {P : Program} {Q : Exit → Act → World → Prop} {md : Region.Mode} {ops : Array Oper} {oz : Oper}
inductive Dep (md : Region.Mode) (ops : Array Oper) (oz : Oper) : Nat → Prop
  | here {e : Edge} : e ∈ oz.after → Region.binds md e = true → Dep md ops oz e.on
  | step {i : Nat} {o : Oper} {f : Edge} : Dep md ops oz i → ops[i]? = some o → f ∈ o.after → Region.binds md f = true → Dep md ops oz f.on
theorem Dep.on {listed : Array Bool} (hc : Closed md ops listed) (h : ∀ e ∈ oz.after, Region.binds md e = true → listed.getD e.on false = true) {i : Nat} (hd : Dep md ops oz i) : listed.getD i false = true := by
  induction hd with
  | here he hb => exact h _ he hb
  | step _ ho hf hb ih => exact hc _ _ ho ih _ hf hb
theorem ready_push_some2 {L0 : List Nat} (hz : ∀ e ∈ oz.after, Region.binds md e = true → e.on < ops.size) (hz2 : ∀ i, i < ops.size → i ∈ L0 ∨ Dep md ops oz i) (hfwd : ∀ i o, ops[i]? = some o → ∀ e ∈ o.after, Region.binds md e = true → e.on < i) {listed : Array Bool} (hs : listed.size = ops.size) (hcl : Closed md ops listed) (h0L : ∀ i ∈ L0, listed.getD i false = true) (hn : ¬ AllOn ops.size listed) :
    ∀ j, j ∈ Region.ready md (ops.push oz) (listed.push false) → j ∈ Region.ready md ops listed := by
  intro j hj
  rw [mem_ready] at hj ⊢
  obtain ⟨h0, o, ho, hall⟩ := hj
  have hlt : j < ops.size + 1 := by have := (Array.getElem?_eq_some_iff.1 ho).1; simpa using this
  by_cases hj' : j = ops.size
  · subst hj'
    have : o = oz := by simpa using ho.symm
    subst this
    refine absurd (fun i hi => ?_) hn
    rcases hz2 i hi with h | h
    · exact h0L i h
    · refine Dep.on hcl (fun e he hb => ?_) h
      have h1 := hall e he hb
      have h2 := hz e he hb
      rwa [getD_push_lt (by omega)] at h1
  · have hjl : j < ops.size := by omega
    rw [Array.getElem?_push_lt hjl] at ho
    rw [getD_push_lt (by omega)] at h0
    refine ⟨h0, o, by rw [Array.getElem?_eq_getElem hjl]; exact ho, fun e he hb => ?_⟩
    have h1 := hall e he hb
    have h2 := hfwd j o (by rw [Array.getElem?_eq_getElem hjl]; exact ho) e he hb
    rwa [getD_push_lt (by omega)] at h1
theorem wpAny_last2 {Q' : Exit → Act → World → Prop} {L0 : List Nat} (hgd : ∀ (i : Nat) (o : Oper), ops[i]? = some o → o.guard = none) (hgz : oz.guard = none)
    (hz : ∀ e ∈ oz.after, Region.binds md e = true → e.on < ops.size) (hz2 : ∀ i, i < ops.size → i ∈ L0 ∨ Dep md ops oz i)
    (hfwd : ∀ i o, ops[i]? = some o → ∀ e ∈ o.after, Region.binds md e = true → e.on < i)
    (hP : ∀ c a w, Q' (.panic c) a w → Q (.panic c) a w) (hL : LetsOut Q' → LetsOut Q) (hN : ∀ a w, Q' .normal a w → oz.wp P a w (fun a w => Q .normal a w) Q ∨ (oz.asks P a w ∧ LetsOut Q)) :
    ∀ (fuel : Nat) (listed : Array Bool) (a : Act) (w : World), listed.size = ops.size → Closed md ops listed → (∀ i ∈ L0, listed.getD i false = true) → wpAny P md ops Q' fuel listed a w → wpAny P md (ops.push oz) Q (fuel + 1) (listed.push false) a w := by
  have lastStep : ∀ (fuel : Nat) (listed : Array Bool) (a : Act) (w : World), listed.size = ops.size → AllOn ops.size listed → Q' .normal a w → wpAny P md (ops.push oz) Q (fuel + 1) (listed.push false) a w := by
    intro fuel listed a w hs hall hq
    have hmem : ops.size ∈ Region.ready md (ops.push oz) (listed.push false) := by
      rw [mem_ready]
      refine ⟨by rw [← hs]; simp [Array.getD], oz, by simp, fun e he hb => ?_⟩
      have := hz e he hb
      rw [getD_push_lt (by omega)]
      exact hall _ this
    refine ⟨fun h => (by rw [h] at hmem; cases hmem), fun j hj => ?_⟩
    have hje := ready_push_all hs hall j hj
    subst hje
    have hdone : Region.ready md (ops.push oz) ((listed.push false).setIfInBounds ops.size true) = [] := by
      refine List.eq_nil_iff_forall_not_mem.2 fun k hk => ?_
      rw [mem_ready] at hk
      obtain ⟨h0, o, ho, _⟩ := hk
      have hlt : k < ops.size + 1 := by have := (Array.getElem?_eq_some_iff.1 ho).1; simpa using this
      by_cases hk' : k = ops.size
      · subst hk'; simp [Array.getD, hs] at h0
      · have h1 : k < ops.size := by omega
        have h2 := hall k h1
        have h3 : k < listed.size := by omega
        simp [Array.getD, h3, Nat.lt_succ_of_lt h3, Ne.symm hk', Array.getElem_push_lt h3] at h0 h2
        rw [h0] at h2; cases h2
    unfold wpOp
    simp only [Array.getElem?_push_size]
    have hw : Region.wanted oz (yielded (ops.push oz) a.tmps) = true := by simp [Region.wanted, hgz]
    rw [if_pos hw]
    refine (hN a w hq).imp (fun hx => Oper.wp_mono (fun a' w' h' => ?_) hx) id
    cases fuel with
    | zero => exact ⟨hdone, h'⟩
    | succ fuel => exact ⟨fun _ => h', fun k hk => by rw [hdone] at hk; cases hk⟩
  intro fuel
  induction fuel with
  | zero =>
    intro listed a w hs _ _ h
    exact lastStep 0 listed a w hs (all_of_none hfwd hs h.1) h.2
  | succ fuel ih =>
    intro listed a w hs hcl h0L h
    by_cases hall : AllOn ops.size listed
    · refine lastStep (fuel + 1) listed a w hs hall (h.1 (List.eq_nil_iff_forall_not_mem.2 fun k hk => ?_))
      rw [mem_ready] at hk
      obtain ⟨h0, o, ho, _⟩ := hk
      have h1 := (Array.getElem?_eq_some_iff.1 ho).1
      have h2 := hall k h1
      have h3 : k < listed.size := by omega
      simp [Array.getD, h3] at h0 h2
      rw [h0] at h2; cases h2
    · refine ⟨fun hr => ?_, fun j hj => ?_⟩
      · have : Region.ready md ops listed = [] := List.eq_nil_iff_forall_not_mem.2 fun k hk => by
          have hk2 : k ∈ Region.ready md (ops.push oz) (listed.push false) := by
            rw [mem_ready] at hk ⊢
            obtain ⟨h0, o, ho, hh⟩ := hk
            have h1 := (Array.getElem?_eq_some_iff.1 ho).1
            refine ⟨by rw [getD_push_lt (by omega)]; exact h0, o, by rw [Array.getElem?_push_lt h1, ← Array.getElem?_eq_getElem h1]; exact ho, fun e he hb => ?_⟩
            rw [getD_push_lt (by have := hfwd k o ho e he hb; omega)]
            exact hh e he hb
          rw [hr] at hk2; cases hk2
        exact absurd (all_of_none hfwd hs this) hall
      · have hj' := ready_push_some2 hz hz2 hfwd hs hcl h0L hall j hj
        have h1 := h.2 j hj'
        have hlt : j < ops.size := by
          rw [mem_ready] at hj'
          obtain ⟨_, o, ho, _⟩ := hj'
          exact (Array.getElem?_eq_some_iff.1 ho).1
        unfold wpOp at h1 ⊢
        rw [Array.getElem?_push_lt hlt]
        rw [Array.getElem?_eq_getElem hlt] at h1
        simp only at h1 ⊢
        have hg := hgd j _ (Array.getElem?_eq_getElem hlt)
        have hw1 : Region.wanted ops[j] (yielded (ops.push oz) a.tmps) = true := by simp [Region.wanted, hg]
        have hw2 : Region.wanted ops[j] (yielded ops a.tmps) = true := by simp [Region.wanted, hg]
        rw [if_pos hw1]
        rw [if_pos hw2] at h1
        rcases h1 with h1 | ⟨h1, h2⟩
        · refine .inl (wp_turn (fun a' w' h' => ?_) hP hL h1)
          rw [set_push (by omega)]
          exact ih _ _ _ (by simp [hs]) (hcl.set hj') (fun i hi => getD_set_true (h0L i hi)) h'
        · exact .inr ⟨h1, hL h2⟩
def edgeB (md : Region.Mode) (ops : Array Oper) (j i : Nat) : Bool := match ops[j]? with | some o => o.after.toList.any (fun f => Region.binds md f && f.on == i) | none => false
theorem edgeB_spec {j i : Nat} (h : edgeB md ops j i = true) : ∃ o f, ops[j]? = some o ∧ f ∈ o.after ∧ Region.binds md f = true ∧ f.on = i := by
  unfold edgeB at h
  split at h
  · rename_i o ho
    simp only [List.any_eq_true, Bool.and_eq_true, beq_iff_eq, Array.mem_toList_iff] at h
    obtain ⟨f, hf, hb, hon⟩ := h
    exact ⟨o, f, ho, hf, hb, hon⟩
  · cases h
def viaB (md : Region.Mode) (ops : Array Oper) (known : List Nat) : List (Nat × Nat) → List Nat
  | [] => known
  | (i, j) :: r => viaB md ops (if (known.contains j && edgeB md ops j i) = true then i :: known else known) r
theorem viaB_dep : ∀ (r : List (Nat × Nat)) (known : List Nat), (∀ i ∈ known, Dep md ops oz i) → ∀ i ∈ viaB md ops known r, Dep md ops oz i
  | [], known, h => h
  | (i, j) :: r, known, h => by
    unfold viaB
    refine viaB_dep r _ ?_
    by_cases hc : (known.contains j && edgeB md ops j i) = true
    · rw [if_pos hc]
      simp only [Bool.and_eq_true] at hc
      obtain ⟨hj, hx⟩ := hc
      obtain ⟨o, f, ho, hf, hb, hon⟩ := edgeB_spec hx
      intro m hm
      rcases List.mem_cons.1 hm with rfl | hm
      · rw [← hon]
        exact .step (h j (by simpa using hj)) ho hf hb
      · exact h m hm
    · rw [if_neg hc]
      exact h
def splitB2 (md : Region.Mode) (ops : Array Oper) (oz : Oper) (L0 : List Nat) (via : List (Nat × Nat)) : Bool :=
  ops.toList.all (fun o => o.guard.isNone) && oz.guard.isNone && oz.after.toList.all (fun e => !Region.binds md e || decide (e.on < ops.size)) &&
  (List.range ops.size).all (fun i => L0.contains i || (viaB md ops ((oz.after.toList.filter (Region.binds md)).map (·.on)) via).contains i) &&
  (List.range ops.size).all (fun i => match ops[i]? with | some o => o.after.toList.all (fun e => !Region.binds md e || decide (e.on < i)) | none => true)
theorem one_last2 {Q' : Exit → Act → World → Prop} {L0 : List Nat} {via : List (Nat × Nat)} {a : Act} {w : World} {fuel : Nat} {listed : Array Bool} (hB : splitB2 md ops oz L0 via = true) (hs : listed.size = ops.size) (hcl : Closed md ops listed) (h0L : ∀ i ∈ L0, listed.getD i false = true)
    (hP : ∀ c a w, Q' (.panic c) a w → Q (.panic c) a w) (hL : LetsOut Q' → LetsOut Q) (hN : ∀ a w, Q' .normal a w → oz.wp P a w (fun a w => Q .normal a w) Q ∨ (oz.asks P a w ∧ LetsOut Q))
    (h : wpAny P md ops Q' fuel listed a w) : wpAny P md (ops.push oz) Q (fuel + 1) (listed.push false) a w := by
  simp only [splitB2, Bool.and_eq_true, List.all_eq_true, List.mem_range, decide_eq_true_eq, Option.isNone_iff_eq_none, Array.mem_toList_iff, Bool.or_eq_true, Bool.not_eq_true'] at hB
  obtain ⟨⟨⟨⟨h1, h2⟩, h3⟩, h4⟩, h5⟩ := hB
  refine wpAny_last2 (L0 := L0) (fun i o ho => h1 o (Array.mem_of_getElem? ho)) h2 (fun e he hb => ?_) (fun i hi => ?_) (fun i o ho e he hb => ?_) hP hL hN fuel listed a w hs hcl h0L h
  · rcases h3 e he with h | h
    · rw [hb] at h; cases h
    · exact h
  · rcases h4 i hi with h | h
    · exact .inl (by simpa using h)
    · refine .inr (viaB_dep via _ (fun j hj => ?_) i (by simpa using h))
      obtain ⟨e, he, rfl⟩ := List.mem_map.1 hj
      obtain ⟨he1, he2⟩ := List.mem_filter.1 he
      exact .here (by simpa using he1) he2
  · have := h5 i (Array.getElem?_eq_some_iff.1 ho).1
    rw [ho] at this
    simp only [List.all_eq_true, Array.mem_toList_iff, Bool.or_eq_true, Bool.not_eq_true', decide_eq_true_eq] at this
    rcases this e he with h | h
    · rw [hb] at h; cases h
    · exact h
def lastsB2 (l : List Oper) (L0 : List Nat) (via : List (Nat × Nat)) : Nat → Nat → Bool
  | 0, _ => true
  | k + 1, n => (match l[n]? with | some oz => splitB2 .any (l.take n).toArray oz L0 via | none => false) && lastsB2 l L0 via k (n + 1)
def closedB (md : Region.Mode) (ops : Array Oper) (listed : Array Bool) : Bool :=
  (List.range ops.size).all fun j => !listed.getD j false || (match ops[j]? with | some o => o.after.toList.all (fun e => !Region.binds md e || listed.getD e.on false) | none => true)
theorem closedB_spec {listed : Array Bool} (h : closedB md ops listed = true) : Closed md ops listed := by
  intro j o ho hj e he hb
  simp only [closedB, List.all_eq_true, List.mem_range, Bool.or_eq_true, Bool.not_eq_true'] at h
  rcases h j (Array.getElem?_eq_some_iff.1 ho).1 with h1 | h1
  · rw [hj] at h1; cases h1
  · rw [ho] at h1
    simp only [List.all_eq_true, Array.mem_toList_iff, Bool.or_eq_true, Bool.not_eq_true'] at h1
    rcases h1 e he with h2 | h2
    · rw [hb] at h2; cases h2
    · exact h2
theorem Closed.pushed {listed : Array Bool} (h : Closed md ops listed) (hs : listed.size = ops.size) (hfwd : ∀ i o, ops[i]? = some o → ∀ e ∈ o.after, Region.binds md e = true → e.on < i) : Closed md (ops.push oz) (listed.push false) := by
  intro j o ho hj e he hb
  have hlt : j < ops.size + 1 := by have := (Array.getElem?_eq_some_iff.1 ho).1; simpa using this
  by_cases hj2 : j = ops.size
  · subst hj2
    exfalso
    simp [Array.getD, ← hs] at hj
  · have h1 : j < ops.size := by omega
    rw [Array.getElem?_push_lt h1] at ho
    rw [getD_push_lt (by omega)] at hj
    have ho' : ops[j]? = some o := by rw [Array.getElem?_eq_getElem h1]; exact ho
    have h2 := hfwd j o ho' e he hb
    rw [getD_push_lt (by omega)]
    exact h j o ho' hj e he hb
theorem any_lasts2 (l : List Oper) (L0 : List Nat) (via : List (Nat × Nat)) {a : Act} {w : World} : ∀ (k n fuel : Nat) (listed : Array Bool), n + k = l.length → lastsB2 l L0 via k n = true → listed.size = (l.take n).toArray.size → Closed .any (l.take n).toArray listed → (∀ i ∈ L0, listed.getD i false = true) →
    wpAny P .any (l.take n).toArray (ThenL P l.toArray Q (l.drop n)) fuel listed a w →
    wpAny P .any l.toArray Q (fuel + k) (listed ++ Array.replicate k false) a w
  | 0, n, fuel, listed, hn, _, hs, hc, h0, h => by
    have e1 : l.take n = l := List.take_of_length_le (by omega)
    have e2 : l.drop n = [] := List.drop_of_length_le (by omega)
    have e3 : ThenL P l.toArray Q [] = Q := by
      funext e a w
      cases e <;> simp [ThenL, wpList]
    rw [e1, e2, e3] at h
    simpa using h
  | k + 1, n, fuel, listed, hn, hB, hs, hc, h0, h => by
    simp only [lastsB2, Bool.and_eq_true] at hB
    obtain ⟨h1, h2⟩ := hB
    have hlt : n < l.length := by omega
    rw [List.getElem?_eq_getElem hlt] at h1
    have e1 : l.take (n + 1) = l.take n ++ [l[n]] := List.take_succ_eq_append_getElem hlt
    have e2 : l.drop n = l[n] :: l.drop (n + 1) := List.drop_eq_getElem_cons hlt
    have e3 : (l.take (n + 1)).toArray = (l.take n).toArray.push l[n] := by rw [e1]; simp
    have h1' := h1
    simp only [splitB2, Bool.and_eq_true, List.all_eq_true, List.mem_range, Option.isNone_iff_eq_none, Array.mem_toList_iff, Bool.or_eq_true, Bool.not_eq_true', decide_eq_true_eq] at h1'
    have hgz : l[n].guard = none := h1'.1.1.1.2
    have hfwd : ∀ (i : Nat) (o : Oper), (l.take n).toArray[i]? = some o → ∀ e ∈ o.after, Region.binds .any e = true → e.on < i := by
      intro i o ho e he hb
      have := h1'.2 i (Array.getElem?_eq_some_iff.1 ho).1
      rw [ho] at this
      simp only [List.all_eq_true, Array.mem_toList_iff, Bool.or_eq_true, Bool.not_eq_true', decide_eq_true_eq] at this
      rcases this e he with h | h
      · rw [hb] at h; cases h
      · exact h
    have step := one_last2 (P := P) (md := .any) (ops := (l.take n).toArray) (oz := l[n]) (Q := ThenL P l.toArray Q (l.drop (n + 1))) (Q' := ThenL P l.toArray Q (l.drop n)) (L0 := L0) (via := via) (a := a) (w := w) (fuel := fuel) (listed := listed) h1 hs hc h0 (fun _ _ _ h => h) (fun ⟨a, w, h⟩ => ⟨a, w, h⟩) (fun a w hq => by
      have hq' : wpList P l.toArray Q (l.drop n) a w := hq
      rw [e2] at hq'
      unfold wpList at hq'
      have hw : Region.wanted l[n] (yielded l.toArray a.tmps) = true := by simp [Region.wanted, hgz]
      rw [if_pos hw] at hq'
      rcases hq' with hq' | ⟨h3, h4⟩
      · exact .inl (wp_turn (fun _ _ h => h) (fun _ _ _ h => h) (fun ⟨a, w, h⟩ => ⟨a, w, h⟩) hq')
      · exact .inr ⟨h3, by obtain ⟨a, w, h⟩ := h4; exact ⟨a, w, h⟩⟩) h
    rw [← e3] at step
    have := any_lasts2 l L0 via k (n + 1) (fuel + 1) (listed.push false) (by omega) h2 (by rw [e3, Array.size_push, Array.size_push, hs]) (by rw [e3]; exact hc.pushed hs hfwd) (fun i hi => by
      have hx := h0 i hi
      by_cases hi2 : i < listed.size
      · rw [getD_push_lt hi2]; exact hx
      · simp [Array.getD, hi2] at hx) step
    have e5 : listed.push false ++ Array.replicate k false = listed ++ Array.replicate (k + 1) false := by
      apply Array.ext_getElem?
      intro i
      simp only [Array.getElem?_append, Array.getElem?_push, Array.size_push, Array.getElem?_replicate]
      by_cases h1 : i < listed.size
      · have h2 : i < listed.size + 1 := by omega
        have h3 : ¬ i = listed.size := by omega
        simp [h1, h2, h3]
      · by_cases h2 : i = listed.size
        · subst h2; simp
        · have h3 : ¬ i < listed.size + 1 := by omega
          simp [h1, h3]
          have e : i - (listed.size + 1) < k ↔ i - listed.size < k + 1 := by omega
          simp [e]
    rw [e5] at this
    rw [show fuel + (k + 1) = fuel + 1 + k by omega]
    exact this
theorem wpPick_mono {l : List Oper} {S : World → Prop} {L L' : Act → Prop} (hL : ∀ a, L a → L' a) : ∀ (is : List Nat) (a : Act), wpPick P l S L is a → wpPick P l S L' is a
  | [], a, h => hL a h
  | i :: is, a, ⟨o, ho, v, hy, h⟩ => ⟨o, ho, v, hy, wpPick_mono hL is _ h⟩
theorem held_true : ∀ (fuel : Nat) (listed : Array Bool) (a : Act) (w : World), wpAny P md ops Q fuel listed a w → wpAnyH P md ops Q (fun _ => True) fuel listed a w := by
  intro fuel
  induction fuel with
  | zero => exact fun _ _ _ h => h
  | succ fuel ih =>
    rintro listed a w ⟨h1, h2⟩
    refine ⟨h1, fun i hi => ?_⟩
    have h := h2 i hi
    unfold wpOp at h ⊢
    split at h
    · rename_i ho
      exact ⟨trivial, ih _ _ _ h⟩
    · rename_i o ho
      split at h
      · rename_i hw
        rw [if_pos hw]
        exact h.imp (fun h => Oper.wp_mono (fun a w h => ⟨trivial, ih _ _ _ h⟩) h) id
      · rename_i hw
        rw [if_neg hw]
        exact ⟨trivial, ih _ _ _ h⟩
theorem held_lasts2 {id : Nat} {a : Act} {w : World} {l : List Oper} (n k : Nat) (pre : List Nat) (via : List (Nat × Nat)) (is : List Nat) (g : Nat) (S : World → Prop) (hm : P.follows .mixedOrders = true) (hk : n + k = l.length)
    (hsel0 : Region.noSelect l.toArray = true) (hpre : pickB .any l.toArray pre (Array.replicate l.toArray.size false) = true)
    (hlast : lastsB2 l pre via k n = true) (hset : setL pre (Array.replicate l.toArray.size false) = setL pre (Array.replicate n false) ++ Array.replicate k false) (hsz : (setL pre (Array.replicate n false)).size = (l.take n).toArray.size) (hclo : closedB .any (l.take n).toArray (setL pre (Array.replicate n false)) = true) (hon : (pre.all fun i => (setL pre (Array.replicate n false)).getD i false) = true)
    (hsel : Region.noSelect (l.take n).toArray = true) (hg : g + is.length + k + pre.length = l.toArray.size) (hB : pickB .any (l.take n).toArray is (setL pre (Array.replicate n false)) = true) (hS : S w.drew)
    (h : wpPick P l (fun _ => True) (fun a1 => wpPick P (l.take n) S (fun a' => wpAnyH P .any (l.take n).toArray (Only (ThenL P l.toArray (Only Q) (l.drop n))) S g (setL is (setL pre (Array.replicate n false))) a' w.drew) is a1) pre a) : (Code.region id l.toArray true).wp P Q a w := by
  refine wp_region_any hm (only_any _ _ _ _ (wpAny_of_held (S := fun _ => True) _ _ _ _ ?_))
  have h1 := held_pick (P := P) (md := .any) (Q := Q) (S := fun _ => True) (w := w.drew) hsel0 (g := g + is.length + k) trivial pre (Array.replicate l.toArray.size false) a hpre ?_
  · rw [hg] at h1
    exact h1
  · refine wpPick_mono (fun a1 h2 => ?_) pre a h
    refine held_true _ _ _ _ ?_
    rw [hset]
    refine any_lasts2 l pre via k n (g + is.length) _ hk hlast hsz (closedB_spec hclo) (fun i hi => by simpa using List.all_eq_true.1 hon i hi) ?_
    exact only_any _ _ _ _ (wpAny_of_held (S := S) _ _ _ _ (held_pick (P := P) (md := .any) (S := S) hsel (g := g) hS is _ a1 hB h2))
end Go.Proofs.YtccalhlhdiapiaaGreatDoor
