/- Texts that the proof rests on, merged: Cv4, Tot2, Cv5, Cv6, Pl4, Pl5, Pl6, QPlus, Dig, QO, Pn3, Pn4, Cv7, Cv8, Vw, Dy, Fd0, Tot3, Gnp, Fd1, Bg, R1b, R1d, R1k, R1l, R1m, R1n, R1c, R2d, R2e. -/
import Derived.Test.YtckihjfkafdncaaGreatDoorKt4
import Derived.Sort.KeysCollected
import Derived.Test.YtckihjfkafdncaaGreatDoorProg
import Derived.Maps.StringElems
import Derived.Lib.ItoaMem
import Derived.IntWalk
import Derived.Laws.IdiomStrings
import Derived.WalkSpells
import Derived.Laws.Concat
set_option linter.unusedVariables false
set_option linter.unusedSimpArgs false
set_option linter.unusedSectionVars false
set_option maxRecDepth 100000
set_option maxHeartbeats 8000000
namespace Go.Proofs.YtckihjfkafdncaaGreatDoor
open Go.RowKit
def valT (N D : Nat) (two : Bool) (l : List UInt8) : Option Int := match s1 N D l 0 0 with
 | none => none
 | some (x, p) => if two = true then (match s1 N D (l.drop p) 0 0 with | none => none | some (y, _) => some ((x : Int) - (y : Int))) else some (x : Int)
def gV (N D : Nat) (two : Bool) (n : Nat) (v : Int) : Nat := cw n fun l => decide (valT N D two l = some v)
def gL (N D : Nat) (two : Bool) (n : Nat) : Nat := cw n fun l => decide (valT N D two l = none)
theorem s1_bd {N D : Nat} (h : N < D) {l : List UInt8} {x p : Nat} (hs : s1 N D l 0 0 = some (x, p)) : p ≤ l.length ∧ x ≤ l.length := by
 have := s1_le h l.length 0 0 x p (Nat.zero_le _) (by omega) hs
 omega
theorem valT_bd {N D : Nat} (h : N < D) {two : Bool} {l : List UInt8} {v : Int} (hv : valT N D two l = some v) : -(l.length : Int) ≤ v ∧ v ≤ l.length := by
 unfold valT at hv
 cases hs : s1 N D l 0 0 with
 | none => rw [hs] at hv; cases hv
 | some xp =>
  obtain ⟨x, p⟩ := xp
  obtain ⟨b1, b2⟩ := s1_bd h hs
  rw [hs] at hv
  cases two
  ·simp at hv; omega
  ·simp only [if_true] at hv
   cases hs2 : s1 N D (l.drop p) 0 0 with
   | none => rw [hs2] at hv; cases hv
   | some yq =>
    obtain ⟨y, q⟩ := yq
    obtain ⟨b3, b4⟩ := s1_bd h hs2
    rw [hs2] at hv
    rw [List.length_drop] at b4
    simp at hv; omega
theorem cw_none {n : Nat} {P : List UInt8 → Bool} (h : ∀ l, l.length = n → P l = false) : cw n P = 0 := by
 rw [cw_congr (Q := fun _ => false) h, cw_false]
theorem gV_out {N D : Nat} (h : N < D) {two : Bool} {n : Nat} {v : Int} (hv : v < -(n : Int) ∨ (n : Int) < v) : gV N D two n v = 0 := by
 refine cw_none fun l hl => decide_eq_false fun e => ?_
 have := valT_bd h e
 omega
theorem gV_one (N D n : Nat) (v : Int) : gV N D false n v = if 0 ≤ v then cw n (oneP N D v.toNat) else 0 := by
 unfold gV
 split
 ·rename_i h0
  refine cw_congr fun l hl => ?_
  unfold valT oneP
  cases s1 N D l 0 0 with
  | none => rfl
  | some xp =>
   obtain ⟨x, p⟩ := xp
   simp only [Bool.false_eq_true, if_false]
   rw [decide_eq_decide, Option.some.injEq]
   omega
 ·rename_i h0
  refine cw_none fun l hl => decide_eq_false fun e => ?_
  unfold valT at e
  cases hs : s1 N D l 0 0 with
  | none => rw [hs] at e; cases e
  | some xp => rw [hs] at e; simp at e; omega
theorem countP_pairs {α : Type} (g : α → Option (Nat × Nat)) (Q : Nat → Nat → Bool) (M : Nat) : ∀ L : List α, (∀ x ∈ L, ∀ i k, g x = some (i, k) → i < M ∧ k < M) →
 L.countP (fun x => match g x with | none => false | some p => Q p.1 p.2) = sumN (fun i => sumN (fun k => if Q i k = true then L.countP (fun x => decide (g x = some (i, k))) else 0) M) M
 | [], _ => by
  have h2 : ∀ i, sumN (fun k => if Q i k = true then ([] : List α).countP (fun x => decide (g x = some (i, k))) else 0) M = 0 := fun i => by
   rw [sumN_congr (d := fun _ => 0) (fun k _ => by simp), sumN_zero]
  rw [sumN_congr (d := fun _ => 0) (fun i _ => h2 i), sumN_zero]; rfl
 | x :: r, h => by
  have ih := countP_pairs g Q M r fun y hy => h y (List.mem_cons_of_mem _ hy)
  have e : ∀ i, sumN (fun k => if Q i k = true then (x :: r).countP (fun x => decide (g x = some (i, k))) else 0) M = sumN (fun k => if Q i k = true then r.countP (fun x => decide (g x = some (i, k))) else 0) M + sumN (fun k => if Q i k = true ∧ g x = some (i, k) then 1 else 0) M := fun i => by
   rw [← sumN_add]
   refine sumN_congr fun k _ => ?_
   rw [List.countP_cons]
   by_cases h1 : Q i k = true
   ·rw [if_pos h1, if_pos h1]
    congr 1
    simp [h1]
   ·rw [if_neg h1, if_neg h1, if_neg (fun hh => h1 hh.1)]
  rw [List.countP_cons, ih, sumN_congr (fun i _ => e i), sumN_add]
  congr 1
  cases hg : g x with
  | none =>
   rw [sumN_congr (d := fun _ => 0) (fun i _ => by rw [sumN_congr (d := fun _ => 0) (fun k _ => by simp), sumN_zero]), sumN_zero]
   simp
  | some p =>
   obtain ⟨a, b⟩ := p
   obtain ⟨ha, hb⟩ := h x (List.mem_cons_self ..) a b hg
   by_cases hq : Q a b = true
   ·have e2 : ∀ i, sumN (fun k => if Q i k = true ∧ some (a, b) = some (i, k) then 1 else 0) M = if a = i then 1 else 0 := fun i => by
     by_cases h1 : a = i
     ·subst h1
      rw [if_pos rfl, sumN_congr (d := fun k => if b = k then 1 else 0) (fun k _ => by
       by_cases h2 : b = k
       ·subst h2; simp [hq]
       ·rw [if_neg h2, if_neg (by simp; exact fun _ => h2)])]
      rw [sumN_one, if_pos hb]
     ·rw [if_neg h1, sumN_congr (d := fun _ => 0) (fun k _ => if_neg (by simp; exact fun _ hh => absurd hh h1)), sumN_zero]
    rw [sumN_congr (fun i _ => e2 i), sumN_one, if_pos ha]
    simp [hq]
   ·rw [sumN_congr (d := fun _ => 0) (fun i _ => by rw [sumN_congr (d := fun _ => 0) (fun k _ => if_neg (by rintro ⟨h1, h2⟩; simp at h2; obtain ⟨rfl, rfl⟩ := h2; exact hq h1)), sumN_zero]), sumN_zero]
    simp [hq]
def twoG (N D : Nat) (l : List UInt8) : Option (Nat × Nat) := match s1 N D l 0 0 with
 | none => none
 | some (x, p) => match s1 N D (l.drop p) 0 0 with | none => none | some (y, _) => some (x, y)
theorem twoG_twoP (N D i k : Nat) (l : List UInt8) : decide (twoG N D l = some (i, k)) = twoP N D i k l := by
 rw [Bool.eq_iff_iff, decide_eq_true_iff]
 unfold twoG twoP oneP
 cases s1 N D l 0 0 with
 | none => simp
 | some xp =>
  obtain ⟨x, p⟩ := xp
  dsimp only
  cases s1 N D (l.drop p) 0 0 with
  | none => simp
  | some yq => simp
theorem gV_two {N D : Nat} (h : N < D) (n : Nat) (v : Int) : gV N D true n v = sumN (fun i => sumN (fun k => if (i : Int) - (k : Int) = v then cw n (twoP N D i k) else 0) (n + 1)) (n + 1) := by
 have h1 := countP_pairs (twoG N D) (fun i k => decide ((i : Int) - (k : Int) = v)) (n + 1) (allW n) (fun l hl i k hg => by
  have hn := allW_len hl
  unfold twoG at hg
  cases hs : s1 N D l 0 0 with
  | none => rw [hs] at hg; cases hg
  | some xp =>
   obtain ⟨x, p⟩ := xp
   obtain ⟨b1, b2⟩ := s1_bd h hs
   rw [hs] at hg
   dsimp only at hg
   cases hs2 : s1 N D (l.drop p) 0 0 with
   | none => rw [hs2] at hg; cases hg
   | some yq =>
    obtain ⟨y, q⟩ := yq
    obtain ⟨b3, b4⟩ := s1_bd h hs2
    rw [hs2] at hg
    rw [List.length_drop] at b4
    simp at hg
    omega)
 unfold gV
 rw [← cw_all]
 refine Eq.trans ?_ (h1.trans ?_)
 ·refine List.countP_congr fun l hl => ?_
  unfold valT twoG
  cases s1 N D l 0 0 with
  | none => simp
  | some xp =>
   obtain ⟨x, p⟩ := xp
   simp only [if_true]
   cases s1 N D (l.drop p) 0 0 with
   | none => simp
   | some yq => simp
 ·refine sumN_congr fun i _ => sumN_congr fun k _ => ?_
  simp only [decide_eq_true_eq]
  split
  ·rw [cw_all]
   exact cw_congr fun l _ => twoG_twoP N D i k l
  ·rfl
theorem gV_sum {N D : Nat} (h : N < D) (two : Bool) (n : Nat) : sumN (fun j => gV N D two n ((j : Int) - (n : Int))) (2 * n + 1) + gL N D two n = 2 ^ n := by
 have h1 := count_all (fun l => ((valT N D two l).isSome, ((valT N D two l).getD 0 + (n : Int)).toNat)) (2 * n + 1) (allW n) (fun l hl hd => by
  have hn := allW_len hl
  dsimp only at hd ⊢
  obtain ⟨v, hv⟩ := Option.isSome_iff_exists.1 hd
  have := valT_bd h hv
  rw [hv, Option.getD_some]
  omega)
 rw [allW_length] at h1
 rw [← h1]
 congr 1
 ·refine sumN_congr fun j hj => ?_
  unfold gV
  rw [← cw_all]
  refine List.countP_congr fun l hl => ?_
  have hn := allW_len hl
  cases hv : valT N D two l with
  | none => simp
  | some v =>
   have := valT_bd h hv
   simp
   omega
 ·unfold gL
  rw [← cw_all]
  refine List.countP_congr fun l hl => ?_
  cases valT N D two l <;> simp
theorem gV_le {N D : Nat} (h : N < D) (two : Bool) (n : Nat) (v : Int) : gV N D two n v ≤ 2 ^ n := by
 by_cases hv : v < -(n : Int) ∨ (n : Int) < v
 ·rw [gV_out h hv]; exact Nat.zero_le _
 ·have h1 := gV_sum h two n
  have h2 := sumN_at (f := fun j => gV N D two n ((j : Int) - (n : Int))) (i := (v + n).toNat) (n := 2 * n + 1) (by omega)
  rw [show ((v + (n : Int)).toNat : Int) - (n : Int) = v by omega] at h2
  omega
open Go.Lib (decDigits nDigits)
def numL (l : List Nat) : List Value := l.map fun n => .string (numB n)
@[simp] theorem numL_length (l : List Nat) : (numL l).length = l.length := by simp [numL]
theorem numL_get {l : List Nat} {i : Nat} (h : i < l.length) : (numL l)[i]? = some (.string (numB (l.getD i 0))) := by
 simp [numL, List.getD_eq_getElem?_getD, List.getElem?_eq_getElem h]
theorem numL_set (l : List Nat) (i x : Nat) : (numL l).set i (.string (numB x)) = numL (l.set i x) := by simp [numL, List.map_set]
def addAt (c : Bool) (k x : Nat) (l : List Nat) : List Nat := if c = true then l.set k (l.getD k 0 + x) else l
theorem addAt_length (c : Bool) (k x : Nat) (l : List Nat) : (addAt c k x l).length = l.length := by unfold addAt; split <;> simp
theorem addAt_false (k x : Nat) (l : List Nat) : addAt false k x l = l := rfl
theorem addAt_true (k x : Nat) (l : List Nat) : addAt true k x l = l.set k (l.getD k 0 + x) := rfl
theorem addAt_get (c : Bool) {k x : Nat} {l : List Nat} (hk : k < l.length) (i : Nat) : (addAt c k x l).getD i 0 = l.getD i 0 + (if c = true ∧ i = k then x else 0) := by
 cases c
 ·rw [addAt_false]; simp
 ·rw [addAt_true, List.getD_eq_getElem?_getD, List.getD_eq_getElem?_getD, List.getElem?_set]
  by_cases h : k = i
  ·subst h; simp [hk, List.getD_eq_getElem?_getD]
  ·simp [h, show ¬ i = k from fun e => h e.symm]
theorem two_pow_digits {x i : Nat} (h : x ≤ 2 ^ i) (hi : i ≤ 3000) : nDigits x ≤ 4000 := by
 refine Nat.le_trans (nDigits_mono h) ?_
 have h1 : 2 ^ i < 10 ^ (i + 1) := by
  have h2 : 2 ^ i ≤ 10 ^ i := Nat.pow_le_pow_left (by omega) i
  have h3 : 10 ^ i < 10 ^ (i + 1) := Nat.pow_lt_pow_right (by omega) (by omega)
  omega
 exact Nat.le_trans (nDigits_le (Nat.succ_pos i) h1) (by omega)
end Go.Proofs.YtckihjfkafdncaaGreatDoor
namespace Go.Proofs.YtckihjfkafdncaaGreatDoor
open Go.RowKit
def aIn (c : Nat → Bool) (x i : Nat) : Nat → List Nat → List Nat
 | 0, l => l
 | j + 1, l => addAt (c j) (i + j) x (aIn c x i j l)
def aOut (c : Nat → Bool) (O : List Nat) (n : Nat) : Nat → List Nat
 | 0 => List.replicate (n + 1) 0
 | i + 1 => aIn c (O.getD i 0) i (n + 1 - i) (aOut c O n i)
theorem aIn_length (c : Nat → Bool) (x i : Nat) : ∀ (j : Nat) (l : List Nat), (aIn c x i j l).length = l.length
 | 0, l => rfl
 | j + 1, l => by rw [aIn, addAt_length, aIn_length c x i j l]
theorem aOut_length (c : Nat → Bool) (O : List Nat) (n : Nat) : ∀ i, (aOut c O n i).length = n + 1
 | 0 => by simp [aOut]
 | i + 1 => by rw [aOut, aIn_length, aOut_length c O n i]
theorem addAt_zero (b : Bool) (k : Nat) (l : List Nat) : addAt b k 0 l = l := by
 unfold addAt
 split
 ·rw [Nat.add_zero]
  apply List.ext_getElem?
  intro m
  rw [List.getElem?_set]
  split
  ·rename_i h
   subst h
   split
   ·rename_i hk
    rw [List.getD_eq_getElem?_getD, List.getElem?_eq_getElem hk]; rfl
   ·rename_i hk
    rw [List.getElem?_eq_none (by omega)]
  ·rfl
 ·rfl
theorem aIn_zero (c : Nat → Bool) (i : Nat) : ∀ (j : Nat) (l : List Nat), aIn c 0 i j l = l
 | 0, l => rfl
 | j + 1, l => by rw [aIn, addAt_zero, aIn_zero c i j l]
theorem aIn_get {c : Nat → Bool} {x i n : Nat} {l : List Nat} (hl : l.length = n + 1) : ∀ {j : Nat}, i + j ≤ n + 1 → ∀ k, (aIn c x i j l).getD k 0 = l.getD k 0 + (if i ≤ k ∧ k < i + j ∧ c (k - i) = true then x else 0)
 | 0, _, k => by rw [aIn, if_neg (by omega)]; rfl
 | j + 1, h, k => by
  rw [aIn, addAt_get _ (by rw [aIn_length]; omega), aIn_get hl (by omega) k, Nat.add_assoc]
  congr 1
  by_cases hk : k = i + j
  ·subst hk
   rw [if_neg (by omega), show i + j - i = j by omega, Nat.zero_add]
   by_cases hc : c j = true
   ·rw [if_pos ⟨hc, rfl⟩, if_pos ⟨by omega, by omega, hc⟩]
   ·rw [if_neg (fun h => hc h.1), if_neg (fun h => hc h.2.2)]
  ·have e0 : (if c j = true ∧ k = i + j then x else 0) = 0 := if_neg (fun h => hk h.2)
   rw [e0, Nat.add_zero]
   by_cases hc : i ≤ k ∧ k < i + j ∧ c (k - i) = true
   ·rw [if_pos hc, if_pos ⟨hc.1, by omega, hc.2.2⟩]
   ·rw [if_neg hc, if_neg (fun h => hc ⟨h.1, by omega, h.2.2⟩)]
theorem aOut_get {c : Nat → Bool} {O : List Nat} {n : Nat} : ∀ {i : Nat}, i ≤ n + 1 → ∀ k, k ≤ n → (aOut c O n i).getD k 0 = sumN (fun i' => if i' ≤ k ∧ c (k - i') = true then O.getD i' 0 else 0) i
 | 0, _, k, hk => by simp [aOut, sumN, List.getD_eq_getElem?_getD, List.getElem?_replicate, show k < n + 1 by omega]
 | i + 1, h, k, hk => by
  rw [aOut, aIn_get (aOut_length c O n i) (by omega), aOut_get (by omega) k hk, sumN]
  congr 1
  by_cases hc : i ≤ k ∧ c (k - i) = true
  ·rw [if_pos hc, if_pos ⟨hc.1, by omega, hc.2⟩]
  ·rw [if_neg hc, if_neg (fun h => hc ⟨h.1, h.2.2⟩)]
def fnL (f : Nat → Nat) (n : Nat) : List Nat := (List.range (n + 1)).map f
theorem fnL_length (f : Nat → Nat) (n : Nat) : (fnL f n).length = n + 1 := by simp [fnL]
theorem fnL_get {f : Nat → Nat} {n k : Nat} (h : k ≤ n) : (fnL f n).getD k 0 = f k := by simp [fnL, List.getD_eq_getElem?_getD, show k < n + 1 by omega]
theorem fnL_ext {l : List Nat} {f : Nat → Nat} {n : Nat} (hl : l.length = n + 1) (h : ∀ k, k ≤ n → l.getD k 0 = f k) : l = fnL f n := by
 apply List.ext_getElem?
 intro k
 by_cases hk : k ≤ n
 ·have h1 := h k hk
  rw [List.getD_eq_getElem?_getD, List.getElem?_eq_getElem (by omega)] at h1
  rw [List.getElem?_eq_getElem (by omega)]
  simp only [Option.getD_some] at h1
  rw [h1]
  simp [fnL, show k < n + 1 by omega]
 ·rw [List.getElem?_eq_none (by omega), List.getElem?_eq_none (by rw [fnL_length]; omega)]
theorem aOut_fn {c : Nat → Bool} {f : Nat → Nat} {n : Nat} : aOut c (fnL f n) n (n + 1) = fnL (cvo (chi c) f) n := by
 refine fnL_ext (aOut_length _ _ _ _) fun k hk => ?_
 rw [aOut_get (Nat.le_refl _) k hk, cvo_comm]
 unfold cvo
 have e : ∀ m, sumN (fun i' => if i' ≤ k ∧ c (k - i') = true then (fnL f n).getD i' 0 else 0) (k + 1 + m) = sumN (fun i' => if i' ≤ k ∧ c (k - i') = true then (fnL f n).getD i' 0 else 0) (k + 1) := fun m => by
  induction m with
  | zero => rfl
  | succ m ih => rw [← Nat.add_assoc, sumN, ih, if_neg (by omega)]; rfl
 rw [show n + 1 = k + 1 + (n - k) by omega, e]
 refine sumN_congr fun i hi => ?_
 rw [fnL_get (by omega)]
 unfold chi
 by_cases hc : c (k - i) = true
 ·rw [if_pos ⟨by omega, hc⟩, if_pos hc, Nat.mul_one]
 ·rw [if_neg (fun h => hc h.2), if_neg hc, Nat.mul_zero]
def opnL (N D n i : Nat) : List Nat := fnL (opn N D i) n
def ednL (N D n i : Nat) : List Nat := fnL (edn N D i) n
theorem opnL_zero (N D n : Nat) : (List.replicate (n + 1) 0).set 0 1 = opnL N D n 0 := by
 refine fnL_ext (by simp) fun k hk => ?_
 rw [List.getD_eq_getElem?_getD, List.getElem?_set]
 unfold opn dlt
 by_cases h : k = 0
 ·subst h; simp
 ·rw [if_neg (fun e => h e.symm), if_neg h]
  simp [List.getElem?_replicate, show k < n + 1 by omega]
theorem opnL_succ (N D n i : Nat) : aOut (oneJ N D) (opnL N D n i) n (n + 1) = opnL N D n (i + 1) := aOut_fn
theorem ednL_is (N D n i : Nat) : aOut (zeroJ N D) (opnL N D n i) n (n + 1) = ednL N D n i := aOut_fn
theorem cvo_bd {c : Nat → Bool} {f : Nat → Nat} {B n : Nat} (h : ∀ s, s ≤ n → f s ≤ B) : ∀ k, k ≤ n → cvo (chi c) f k ≤ (n + 1) * B := fun k hk => by
 unfold cvo
 have h1 : sumN (fun s => chi c s * f (k - s)) (k + 1) ≤ sumN (fun _ => B) (k + 1) := sumN_le fun s hs => by
  have := chi_le c s
  have := h (k - s) (by omega)
  calc chi c s * f (k - s) ≤ 1 * f (k - s) := Nat.mul_le_mul_right _ (by assumption)
   _ ≤ B := by omega
 have h2 : ∀ m, sumN (fun _ => B) m = m * B := fun m => by
  induction m with
  | zero => simp [sumN]
  | succ m ih => rw [sumN, ih, Nat.succ_mul]
 rw [h2] at h1
 exact Nat.le_trans h1 (Nat.mul_le_mul_right _ (by omega))
theorem opn_bd {N D n : Nat} (hn : n ≤ 32) : ∀ i s, s ≤ n → opn N D i s ≤ 2 ^ (6 * i)
 | 0, s, hs => by unfold opn dlt; split <;> simp
 | i + 1, s, hs => by
  have h := cvo_bd (c := oneJ N D) (f := opn N D i) (B := 2 ^ (6 * i)) (n := n) (fun s hs => opn_bd hn i s hs) s hs
  rw [opn]
  refine Nat.le_trans h ?_
  rw [show 6 * (i + 1) = 6 + 6 * i by omega, Nat.pow_add]
  exact Nat.mul_le_mul_right _ (by omega)
theorem edn_bd {N D n : Nat} (hn : n ≤ 32) (i s : Nat) (hs : s ≤ n) : edn N D i s ≤ 2 ^ (6 * (i + 1)) := by
 have h := cvo_bd (c := zeroJ N D) (f := opn N D i) (B := 2 ^ (6 * i)) (n := n) (fun s hs => opn_bd hn i s hs) s hs
 unfold edn
 refine Nat.le_trans h ?_
 rw [show 6 * (i + 1) = 6 + 6 * i by omega, Nat.pow_add]
 exact Nat.mul_le_mul_right _ (by omega)
theorem aIn_le {c : Nat → Bool} {O : List Nat} {n i j k : Nat} (hi : i ≤ n) (hij : i + j ≤ n + 1) (hk : k ≤ n) : (aIn c (O.getD i 0) i j (aOut c O n i)).getD k 0 ≤ (aOut c O n (n + 1)).getD k 0 := by
 rw [aIn_get (aOut_length _ _ _ _) hij, aOut_get (by omega) k hk, aOut_get (Nat.le_refl _) k hk]
 refine Nat.le_trans ?_ (sumN_mono (show i + 1 ≤ n + 1 by omega))
 rw [sumN]
 refine Nat.add_le_add_left ?_ _
 by_cases hc : i ≤ k ∧ c (k - i) = true
 ·rw [if_pos hc]; split <;> omega
 ·rw [if_neg hc, if_neg (fun h => hc ⟨h.1, h.2.2⟩)]; exact Nat.le_refl _
def addM (c : Int → Nat) (v : Int) (x : Nat) : Int → Nat := fun w => if w = v then c w + x else c w
theorem sumN_swap (f : Nat → Nat → Nat) (m : Nat) : ∀ n, sumN (fun i => sumN (fun k => f i k) m) n = sumN (fun k => sumN (fun i => f i k) n) m
 | 0 => by simp only [sumN]; rw [sumN_zero]
 | n + 1 => by rw [sumN, sumN_swap f m n, ← sumN_add]; rfl
theorem sumN_if (c : Prop) [Decidable c] (f : Nat → Nat) (n : Nat) : sumN (fun i => if c then f i else 0) n = if c then sumN f n else 0 := by
 split
 ·rfl
 ·exact sumN_zero n
def c1 (N D n i s : Nat) (v : Int) : Nat := sumN (fun i' => if (i' : Int) = v then sumN (fun s' => edn N D i' s' * 2 ^ (n - s')) (n + 1) else 0) i + (if (i : Int) = v then sumN (fun s' => edn N D i s' * 2 ^ (n - s')) s else 0)
theorem c1_zero (N D n : Nat) : c1 N D n 0 0 = fun _ => 0 := by funext v; simp [c1, sumN]
theorem c1_step (N D n i s : Nat) : c1 N D n i (s + 1) = addM (c1 N D n i s) (i : Int) (edn N D i s * 2 ^ (n - s)) := by
 funext v
 unfold addM c1
 by_cases h : (i : Int) = v
 ·subst h
  rw [if_pos rfl, if_pos rfl, if_pos rfl, sumN]; omega
 ·rw [if_neg h, if_neg h, if_neg (fun e => h e.symm)]
theorem c1_row (N D n i : Nat) : c1 N D n i (n + 1) = c1 N D n (i + 1) 0 := by
 funext v
 unfold c1
 rw [sumN]
 simp [sumN]
theorem c1_skip {N D n i s : Nat} (h : edn N D i s = 0) : c1 N D n i (s + 1) = c1 N D n i s := by
 rw [c1_step, h]
 funext v
 unfold addM
 split <;> simp
theorem c1_end {N D : Nat} (h : N < D) (n : Nat) (v : Int) : c1 N D n (n + 1) 0 v = gV N D false n v := by
 rw [gV_one]
 unfold c1
 have e : ∀ i, sumN (fun s' => edn N D i s' * 2 ^ (n - s')) (n + 1) = cw n (oneP N D i) := fun i => (cw_oneP h i n).symm
 simp only [e]
 rw [show (if ((n + 1 : Nat) : Int) = v then sumN (fun s' => edn N D (n + 1) s' * 2 ^ (n - s')) 0 else 0) = 0 by split <;> rfl, Nat.add_zero]
 by_cases h0 : 0 ≤ v
 ·rw [if_pos h0]
  rw [sumN_congr (d := fun i => if v.toNat = i then cw n (oneP N D v.toNat) else 0) (fun i _ => by
   by_cases hi : (i : Int) = v
   ·rw [if_pos hi, if_pos (by omega), show v.toNat = i by omega]
   ·rw [if_neg hi, if_neg (by omega)])]
  have e2 : ∀ m, sumN (fun i => if v.toNat = i then cw n (oneP N D v.toNat) else 0) m = if v.toNat < m then cw n (oneP N D v.toNat) else 0 := fun m => by
   induction m with
   | zero => simp [sumN]
   | succ m ih =>
    rw [sumN, ih]
    by_cases h1 : v.toNat < m
    ·rw [if_pos h1, if_neg (by omega), if_pos (by omega)]; rfl
    ·rw [if_neg h1, Nat.zero_add]
     by_cases h2 : v.toNat = m
     ·rw [if_pos h2, if_pos (by omega)]
     ·rw [if_neg h2, if_neg (by omega)]
  rw [e2]
  split
  ·rfl
  ·rename_i hn
   refine (cw_none fun l hl => ?_).symm
   unfold oneP
   cases hs : s1 N D l 0 0 with
   | none => rfl
   | some xp =>
    obtain ⟨x, p⟩ := xp
    obtain ⟨b1, b2⟩ := s1_bd h hs
    exact decide_eq_false (by omega)
 ·rw [if_neg h0]
  rw [sumN_congr (d := fun _ => 0) (fun i _ => if_neg (by omega)), sumN_zero]
theorem c1_le {N D n i s : Nat} (h : N < D) (hi : i ≤ n) (hs : s ≤ n + 1) (v : Int) : c1 N D n i s v ≤ gV N D false n v := by
 rw [← c1_end h]
 have h1 : c1 N D n i s v ≤ c1 N D n (i + 1) 0 v := by
  rw [← c1_row]
  unfold c1
  refine Nat.add_le_add_left ?_ _
  split
  ·exact sumN_mono hs
  ·exact Nat.le_refl _
 refine Nat.le_trans h1 ?_
 unfold c1
 have e : ∀ i, (if ((i : Nat) : Int) = v then sumN (fun s' => edn N D i s' * 2 ^ (n - s')) 0 else 0) = 0 := fun i => by split <;> rfl
 rw [e, e]
 exact sumN_mono (by omega)
def p2 (N D n i s k u : Nat) (v : Int) : Nat := if (i : Int) - (k : Int) = v then sumN (fun u' => edn N D i s * edn N D k u' * 2 ^ (n - s - u')) u else 0
def q2 (N D n i s k : Nat) (v : Int) : Nat := sumN (fun k' => p2 N D n i s k' (n - s + 1) v) k
def r2 (N D n i s : Nat) (v : Int) : Nat := sumN (fun s' => q2 N D n i s' (n + 1) v) s
def t2 (N D n i : Nat) (v : Int) : Nat := sumN (fun i' => r2 N D n i' (n + 1) v) i
def c2 (N D n i s k u : Nat) (v : Int) : Nat := t2 N D n i v + r2 N D n i s v + q2 N D n i s k v + p2 N D n i s k u v
theorem p2_zero (N D n i s k : Nat) (v : Int) : p2 N D n i s k 0 v = 0 := by unfold p2; split <;> rfl
theorem c2_zero (N D n : Nat) : c2 N D n 0 0 0 0 = fun _ => 0 := by funext v; simp [c2, t2, r2, q2, p2_zero, sumN]
theorem c2_u (N D n i s k u : Nat) : c2 N D n i s k (u + 1) = addM (c2 N D n i s k u) ((i : Int) - (k : Int)) (edn N D i s * edn N D k u * 2 ^ (n - s - u)) := by
 funext v
 unfold addM c2 p2
 by_cases h : (i : Int) - (k : Int) = v
 ·subst h
  rw [if_pos rfl, if_pos rfl, if_pos rfl, sumN]; omega
 ·rw [if_neg h, if_neg h, if_neg (fun e => h e.symm)]
theorem c2_skip {N D n i s k u : Nat} (h : edn N D k u = 0) : c2 N D n i s k (u + 1) = c2 N D n i s k u := by
 rw [c2_u, h]
 funext v
 unfold addM
 split <;> simp
theorem c2_k (N D n i s k : Nat) : c2 N D n i s k (n - s + 1) = c2 N D n i s (k + 1) 0 := by
 funext v
 unfold c2
 rw [p2_zero]
 unfold q2
 rw [sumN]; omega
theorem c2_s (N D n i s : Nat) : c2 N D n i s (n + 1) 0 = c2 N D n i (s + 1) 0 0 := by
 funext v
 unfold c2
 rw [p2_zero, p2_zero]
 unfold r2
 rw [sumN]
 simp only [q2, sumN]; omega
theorem c2_none {N D n i s : Nat} (h : edn N D i s = 0) : c2 N D n i (s + 1) 0 0 = c2 N D n i s 0 0 := by
 rw [← c2_s]
 funext v
 unfold c2
 rw [p2_zero, p2_zero]
 have e : q2 N D n i s (n + 1) v = 0 := by
  unfold q2
  rw [sumN_congr (d := fun _ => 0) (fun k _ => by
   unfold p2
   split
   ·rw [sumN_congr (d := fun _ => 0) (fun u _ => by rw [h, Nat.zero_mul, Nat.zero_mul]), sumN_zero]
   ·rfl), sumN_zero]
 rw [e]
 simp [q2, sumN]
theorem c2_i (N D n i : Nat) : c2 N D n i (n + 1) 0 0 = c2 N D n (i + 1) 0 0 0 := by
 funext v
 unfold c2
 rw [p2_zero, p2_zero]
 unfold t2
 rw [sumN]
 simp only [q2, r2, sumN]
theorem c2_end {N D : Nat} (h : N < D) (n : Nat) (v : Int) : c2 N D n (n + 1) 0 0 0 v = gV N D true n v := by
 rw [gV_two h]
 unfold c2
 rw [p2_zero]
 simp only [q2, sumN, r2, Nat.add_zero]
 unfold t2 r2 q2
 refine sumN_congr fun i _ => ?_
 rw [sumN_swap (fun s k => p2 N D n i s k (n - s + 1) v)]
 refine sumN_congr fun k _ => ?_
 unfold p2
 rw [sumN_if]
 by_cases hv : (i : Int) - (k : Int) = v
 ·rw [if_pos hv, if_pos hv, cw_twoP h k i n]
  unfold cvo
  refine sumN_congr fun s _ => ?_
  rw [← sumN_mul]
  refine sumN_congr fun u _ => ?_
  unfold pw2
  rw [Nat.mul_assoc]
 ·rw [if_neg hv, if_neg hv]
theorem c2_le {N D n i s k u : Nat} (h : N < D) (hi : i ≤ n) (hs : s ≤ n) (hk : k ≤ n) (hu : u ≤ n - s + 1) (v : Int) : c2 N D n i s k u v ≤ gV N D true n v := by
 rw [← c2_end h]
 have a1 : p2 N D n i s k u v ≤ p2 N D n i s k (n - s + 1) v := by
  unfold p2
  split
  ·exact sumN_mono hu
  ·exact Nat.le_refl _
 have a2 : q2 N D n i s k v + p2 N D n i s k (n - s + 1) v ≤ q2 N D n i s (n + 1) v := by
  have : q2 N D n i s (k + 1) v ≤ q2 N D n i s (n + 1) v := sumN_mono (by omega)
  unfold q2 at *
  rw [sumN] at this; omega
 have a3 : r2 N D n i s v + q2 N D n i s (n + 1) v ≤ r2 N D n i (n + 1) v := by
  have : r2 N D n i (s + 1) v ≤ r2 N D n i (n + 1) v := sumN_mono (by omega)
  unfold r2 at *
  rw [sumN] at this; omega
 have a4 : t2 N D n i v + r2 N D n i (n + 1) v ≤ t2 N D n (n + 1) v := by
  have : t2 N D n (i + 1) v ≤ t2 N D n (n + 1) v := sumN_mono (by omega)
  unfold t2 at *
  rw [sumN] at this; omega
 unfold c2
 omega
open Go.Maps
open Go.Lib (decDigits nDigits)
def keyL (p : ByteArray × ByteArray) : List UInt8 := p.1.data.toList
def sortM (L : List (ByteArray × ByteArray)) : List (ByteArray × ByteArray) := L.mergeSort (fun p q => leB (keyL p) (keyL q))
theorem sortM_mem {L : List (ByteArray × ByteArray)} {p : ByteArray × ByteArray} : p ∈ sortM L ↔ p ∈ L := List.mem_mergeSort
theorem leB_trans : ∀ a b c : List UInt8, leB a b = true → leB b c = true → leB a c = true := fun a b c h1 h2 => by simp only [leB, decide_eq_true_eq] at *; exact List.le_trans h1 h2
theorem leB_total : ∀ a b : List UInt8, (leB a b || leB b a) = true := fun a b => by simp only [leB, Bool.or_eq_true, decide_eq_true_eq]; exact List.le_total a b
theorem sortM_sorted (L : List (ByteArray × ByteArray)) : (sortM L).Pairwise (fun p q => leB (keyL p) (keyL q) = true) :=
 List.pairwise_mergeSort (le := fun p q => leB (keyL p) (keyL q)) (fun a b c => leB_trans (keyL a) (keyL b) (keyL c)) (fun a b => leB_total (keyL a) (keyL b)) L
def massC (L : List (ByteArray × ByteArray)) : List Value := L.flatMap (fun p => [.string p.1, .string p.2])
theorem massC_length (L : List (ByteArray × ByteArray)) : (massC L).length = L.length * 2 := by
 unfold massC
 induction L with
 | nil => rfl
 | cons p r ih => rw [List.flatMap_cons, List.length_append, ih, List.length_cons]; simp; omega
theorem massC_append (L M : List (ByteArray × ByteArray)) : massC (L ++ M) = massC L ++ massC M := by simp [massC]
theorem massC_get {L : List (ByteArray × ByteArray)} : ∀ {i : Nat} {p : ByteArray × ByteArray}, L[i]? = some p → (massC L)[2 * i]? = some (.string p.1) ∧ (massC L)[2 * i + 1]? = some (.string p.2) := by
 induction L with
 | nil => intro i p h; simp at h
 | cons q r ih =>
  intro i p h
  cases i with
  | zero => simp at h; subst h; exact ⟨rfl, rfl⟩
  | succ i =>
   have h' : r[i]? = some p := by simpa using h
   obtain ⟨h1, h2⟩ := ih h'
   have e : massC (q :: r) = [.string q.1, .string q.2] ++ massC r := rfl
   rw [e, show 2 * (i + 1) = 2 + 2 * i by omega]
   constructor
   ·rw [List.getElem?_append_right (by simp)]; simpa using h1
   ·rw [List.getElem?_append_right (by simp <;> omega)]
    simp only [List.length_cons, List.length_nil]
    rw [show 2 + 2 * i + 1 - (0 + 1 + 1) = 2 * i + 1 by omega]
    exact h2
theorem MRow.of_owns {w : World} {base n : Nat} {e : TypeId} {v : Value} {L : List (ByteArray × ByteArray)} (h : w.ownsRow base e 2 v n (massC L)) : MRow w v L := by
 have hn : n = L.length := by have := h.1; rw [massC_length] at this; omega
 subst hn
 refine ⟨?_⟩
 have hh := h
 rcases h.2 with ⟨rfl, h0⟩ | ⟨g, cap, cur, rfl, hb, hg, h1, h2, h3, h4⟩
 ·exact ⟨none, 0, by rw [h0], by omega, by omega, fun i x hx => by have := (List.getElem?_eq_some_iff.1 hx).1; omega⟩
 ·refine ⟨some ⟨g, 0, none⟩, cap, rfl, h1, by unfold maxLen at h2; exact h2, fun i x hx => ⟨g, 0, rfl, (Array.getElem?_eq_some_iff.1 hg).1, ?_⟩⟩
  obtain ⟨m1, m2⟩ := massC_get hx
  have k1 := hh.cells rfl _ _ m1
  have k2 := hh.cells rfl _ _ m2
  rw [Addr.add_lit] at k1 k2
  rw [← Nat.add_assoc] at k2
  exact ⟨k1, k2⟩
theorem numB_late (i : Nat) : (numB i).data.toList ≠ lateB.data.toList := by
 intro e
 have h : (108 : UInt8) ∈ decDigits i := by
  rw [← numB_list, e]; decide
 exact absurd (allDig_dec i 108 h) (by decide)
open Go.Shelf
theorem info_mass : (Tryz.prog.info? 39).map (fun i => (i.zero, i.size, i.bytes)) = some (some (.agg #[.string ⟨#[]⟩, .string ⟨#[]⟩]), 2, 32) := by kernel_rfl
theorem zero_num (w : World) : (zeroValue 22).run Tryz.prog w = .ok (.string ⟨#[]⟩) w := by kernel_rfl
theorem shB_zero (t : Nat) : shB 0 t = ⟨#[48]⟩ := by
 have e : qmk false 0 t = 0 := by unfold qmk sgn; simp
 have h1 : ¬ ovQ 0 := by
  have : nDigits 0 ≤ 4000 := by rw [nDigits_zero]; omega
  have : nDigits 1 ≤ 4000 := by rw [nDigits_one]; omega
  unfold ovQ
  rw [show (0 : Rat).num.natAbs = 0 from rfl, show (0 : Rat).den = 1 from rfl]
  omega
 unfold shB
 rw [e]
 unfold outB
 rw [if_neg h1]
 apply ba_ext
 rw [txQ, txB_list, show (0 : Rat).num.natAbs = 0 from rfl, show (0 : Rat).den = 1 from rfl, show decide ((0 : Rat).num < 0) = false from rfl, dec_zero]
 rfl
end Go.Proofs.YtckihjfkafdncaaGreatDoor
namespace Go.Proofs.YtckihjfkafdncaaGreatDoor
theorem sgn_mulN (m : Bool) (n d : Nat) : sgn m (n * d) = sgn m n * (d : Int) := by cases m <;> simp [sgn, Int.neg_mul]
theorem q_add (p q : Rat) : p + q = mkRat (sgn (decide (p.num < 0)) (p.num.natAbs * q.den) + sgn (decide (q.num < 0)) (q.num.natAbs * p.den)) (p.den * q.den) := by
 rw [sgn_mulN, sgn_mulN, sgn_of, sgn_of, Rat.add_def', Int.mul_comm q.num]
 try rw [Int.mul_comm q.num]
theorem sgn_same (m : Bool) (x y : Nat) : sgn m x + sgn m y = sgn m (x + y) := by cases m <;> simp [sgn] <;> omega
theorem sgn_less {m1 m2 : Bool} (h : m1 ≠ m2) {x y : Nat} (hl : x < y) : sgn m1 x + sgn m2 y = sgn m2 (y - x) := by
 cases m1 <;> cases m2 <;> simp [sgn] at * <;> omega
theorem sgn_more {m1 m2 : Bool} (h : m1 ≠ m2) {x y : Nat} (hl : y ≤ x) : sgn m1 x + sgn m2 y = sgn m1 (x - y) := by
 cases m1 <;> cases m2 <;> simp [sgn] at * <;> omega
open Go.RowKit
open Go.Lib (decDigits nDigits)
theorem sgn_abs_le (m1 m2 : Bool) (x y : Nat) : (sgn m1 x + sgn m2 y).natAbs ≤ x + y := by
 cases m1 <;> cases m2 <;> simp [sgn] <;> omega
structure Dig (K : Nat) (q : Rat) : Prop where
 n : q.num.natAbs < 10 ^ K
 d : q.den < 10 ^ K
theorem Dig.fits {K : Nat} {q : Rat} (h : Dig K q) (h0 : 0 < K) (hk : K ≤ 4000) : ¬ ovQ q := by
 unfold ovQ
 have h1 := nDigits_le h0 h.n
 have h2 := nDigits_le h0 h.d
 omega
theorem dig_mk {K : Nat} {z : Int} {d : Nat} (hd : 0 < d) (h1 : z.natAbs < 10 ^ K) (h2 : d < 10 ^ K) : Dig K (mkRat z d) := by
 refine ⟨?_, ?_⟩
 ·rw [Rat.num_mkRat, if_neg (by omega)]
  exact Nat.lt_of_le_of_lt (Int.natAbs_ediv_le_natAbs _ _) h1
 ·rw [Rat.den_mkRat, if_neg (by omega)]
  exact Nat.lt_of_le_of_lt (Nat.div_le_self _ _) h2
theorem dig_mul {K L : Nat} {p q : Rat} (hp : Dig K p) (hq : Dig L q) : Dig (K + L) (p * q) := by
 rw [← qmk_mul]
 unfold qmk
 exact dig_mk (Nat.mul_pos p.den_pos q.den_pos) (by rw [sgn_natAbs]; exact fit_mul hp.n hq.n) (fit_mul hp.d hq.d)
theorem dig_add {K L : Nat} {p q : Rat} (hp : Dig K p) (hq : Dig L q) : Dig (K + L + 1) (p + q) := by
 rw [q_add]
 refine dig_mk (Nat.mul_pos p.den_pos q.den_pos) ?_ (fit_up (fit_mul hp.d hq.d) (by omega))
 refine Nat.lt_of_le_of_lt (sgn_abs_le _ _ _ _) ?_
 have h1 := fit_mul hp.n hq.d
 have h2 := fit_mul hq.n hp.d
 rw [Nat.add_comm L K] at h2
 exact fit_add h1 h2
theorem dig_neg {K : Nat} {q : Rat} (h : Dig K q) : Dig K (-q) := ⟨by rw [Rat.neg_num, Int.natAbs_neg]; exact h.n, by rw [Rat.neg_den]; exact h.d⟩
def t1 : ByteArray := ⟨#[49]⟩
theorem outB_fits {q : Rat} (h : ¬ ovQ q) : outB q = txQ q := if_neg h
theorem outE_fits {q : Rat} (h : ¬ ovQ q) : outE q = 0 := if_neg h
theorem op2_err {f : Rat → Rat → Rat} {s t : ByteArray} (h0 : ¬ (qE s = 0 ∧ qE t = 0)) : (if qE s = 0 then qE t else qE s) ≠ 0 ∧ op2B f s t = ⟨#[]⟩ ∧ op2E f s t = (if qE s = 0 then qE t else qE s) := by
 refine ⟨?_, by rw [op2B, if_neg h0], ?_⟩
 ·split
  ·rename_i h; exact fun e => h0 ⟨h, e⟩
  ·rename_i h; exact h
 ·rw [op2E]
  split
  ·rename_i h; rw [if_neg (fun e => h0 ⟨h, e⟩)]
  ·rfl
def sgnQ (q : Rat) : Int := if q.num = 0 then 0 else if q.num < 0 then -1 else 1
def ordQ (p q : Rat) : Int := sgnQ (p - q)
def cmB (s t : ByteArray) : Int := if qE s = 0 ∧ qE t = 0 then ordQ (vQ s) (vQ t) else 0
def cmE (s t : ByteArray) : Int := if qE s = 0 then qE t else qE s
theorem limbs_none {n : Nat} : (limbs n).length = 0 ↔ n = 0 := by
 constructor
 ·intro h
  have h2 : limbs n = limbs 0 := by rw [List.eq_nil_of_length_eq_zero h, limbs_zero]
  exact limbs_inj h2
 ·rintro rfl; rw [limbs_zero]; rfl
def sgnZ (z : Int) : Int := if z = 0 then 0 else if z < 0 then -1 else 1
theorem mk_num_zero {z : Int} {d : Nat} (hd : d ≠ 0) : (mkRat z d).num = 0 ↔ z = 0 := by
 rw [Rat.num_mkRat, if_neg hd]
 have hg : (0 : Int) < (Nat.gcd d z.natAbs : Nat) := by
  have := Nat.gcd_pos_of_pos_left z.natAbs (Nat.pos_of_ne_zero hd)
  omega
 have hdv : ((Nat.gcd d z.natAbs : Nat) : Int) ∣ z := Int.ofNat_dvd_left.2 (Nat.gcd_dvd_right _ _)
 constructor
 ·intro h
  have := Int.ediv_mul_cancel hdv
  rw [h, Int.zero_mul] at this
  exact this.symm
 ·rintro rfl; simp
theorem mk_num_neg {z : Int} {d : Nat} (hd : d ≠ 0) : (mkRat z d).num < 0 ↔ z < 0 := by
 rw [Rat.num_mkRat, if_neg hd]
 have hg : (0 : Int) < (Nat.gcd d z.natAbs : Nat) := by
  have := Nat.gcd_pos_of_pos_left z.natAbs (Nat.pos_of_ne_zero hd)
  omega
 constructor
 ·intro h
  rcases Int.lt_or_le z 0 with h1 | h1
  ·exact h1
  ·have := Int.ediv_nonneg h1 (Int.le_of_lt hg)
   omega
 ·intro h
  exact Int.ediv_neg_of_neg_of_pos h hg
theorem sgnQ_mk {z : Int} {d : Nat} (hd : d ≠ 0) : sgnQ (mkRat z d) = sgnZ z := by
 unfold sgnQ sgnZ
 by_cases h : z = 0
 ·rw [if_pos ((mk_num_zero hd).2 h), if_pos h]
 ·rw [if_neg (fun e => h ((mk_num_zero hd).1 e)), if_neg h]
  by_cases h2 : z < 0
  ·rw [if_pos ((mk_num_neg hd).2 h2), if_pos h2]
  ·rw [if_neg (fun e => h2 ((mk_num_neg hd).1 e)), if_neg h2]
theorem qmk_nat (a b : Nat) : qmk false a b = mkRat (a : Int) b := by unfold qmk sgn; rfl
theorem dig_frac {K : Nat} {z : Int} {d : Nat} (hd : d ≠ 0) (h1 : nDigits z.natAbs ≤ K) (h2 : nDigits d ≤ K) : Dig K (mkRat z d) :=
 dig_mk (Nat.pos_of_ne_zero hd) (Nat.lt_of_lt_of_le (Go.Lib.lt_pow_nDigits _) (Nat.pow_le_pow_right (by omega) h1)) (Nat.lt_of_lt_of_le (Go.Lib.lt_pow_nDigits _) (Nat.pow_le_pow_right (by omega) h2))
theorem shB_tx {a b : Nat} (hb : b ≠ 0) (h1 : nDigits a ≤ 4000) (h2 : nDigits b ≤ 4000) : shB a b = txQ (mkRat (a : Int) b) := by
 unfold shB
 rw [qmk_nat]
 exact outB_fits ((dig_frac hb (by simpa using h1) h2).fits (by omega) (by omega))
theorem op2_txt {f : Rat → Rat → Rat} {p q : Rat} (hp : ¬ ovQ p) (hq : ¬ ovQ q) (h : ¬ ovQ (f p q)) : op2B f (txQ p) (txQ q) = txQ (f p q) ∧ op2E f (txQ p) (txQ q) = 0 := by
 have h1 := qE_txQ hp
 have h2 := qE_txQ hq
 refine ⟨?_, ?_⟩
 ·rw [op2B, if_pos ⟨h1, h2⟩, vQ_txQ, vQ_txQ, outB_fits h]
 ·rw [op2E, if_pos h1, if_pos h2, vQ_txQ, vQ_txQ, outE_fits h]
theorem cm_txt {p q : Rat} (hp : ¬ ovQ p) (hq : ¬ ovQ q) : cmB (txQ p) (txQ q) = ordQ p q ∧ cmE (txQ p) (txQ q) = 0 := by
 have h1 := qE_txQ hp
 have h2 := qE_txQ hq
 exact ⟨by rw [cmB, if_pos ⟨h1, h2⟩, vQ_txQ, vQ_txQ], by rw [cmE, if_pos h1, h2]⟩
open Go.Shelf
def valM (L : List (ByteArray × ByteArray)) (k : ByteArray) : ByteArray := ((L.find? fun p => decide (p.1 = k)).map (·.2)).getD ⟨#[48]⟩
theorem valM_none {L : List (ByteArray × ByteArray)} {k : ByteArray} (h : ∀ p ∈ L, p.1 ≠ k) : valM L k = ⟨#[48]⟩ := by
 unfold valM
 rw [List.find?_eq_none.2 (fun p hp => by simpa using h p hp)]
 rfl
theorem valM_some {L : List (ByteArray × ByteArray)} {k v : ByteArray} (hm : (k, v) ∈ L) (nd : (L.map keyL).Nodup) : valM L k = v := by
 unfold valM
 cases hf : L.find? (fun p => decide (p.1 = k)) with
 | none =>
  have := List.find?_eq_none.1 hf (k, v) hm
  simp at this
 | some p =>
  have h1 := List.mem_of_find?_eq_some hf
  have h2 : p.1 = k := by simpa using List.find?_some hf
  obtain ⟨i, hi, e1⟩ := List.getElem_of_mem h1
  obtain ⟨j, hj, e2⟩ := List.getElem_of_mem hm
  have e : i = j := by
   rcases Nat.lt_trichotomy i j with h | h | h
   ·have := List.pairwise_iff_getElem.1 nd i j (by simpa using hi) (by simpa using hj) h
    simp only [List.getElem_map, e1, e2, keyL, h2, ne_eq, not_true_eq_false] at this
   ·exact h
   ·have := List.pairwise_iff_getElem.1 nd j i (by simpa using hj) (by simpa using hi) h
    simp only [List.getElem_map, e1, e2, keyL, h2, ne_eq, not_true_eq_false] at this
  subst e
  rw [e1] at e2
  subst e2
  rfl
theorem sortM_nd {L : List (ByteArray × ByteArray)} (nd : (L.map keyL).Nodup) : ((sortM L).map keyL).Nodup := (((List.mergeSort_perm L _).map keyL).nodup_iff).2 nd
theorem numB_inj {i j : Nat} (h : numB i = numB j) : i = j := by rw [← bN_num i, h, bN_num]
theorem w_value (w : World) (v : Value) (L : List (ByteArray × ByteArray)) (k : ByteArray) (hv : MRow w v L) :
 Calls Tryz.prog 18 #[v, .string k] w fun e w' => e = .returned (.string (valM L k)) ∧ w = w' := by
 obtain ⟨a, c, rfl, h1, h2, h3⟩ := hv.ex
 obtain ⟨n, hn⟩ : ∃ n, L.length = n := ⟨_, rfl⟩
 rw [hn] at h1 ⊢
 have H3 := hid h3; have HN := hid hn
 clear hv h3 hn
 go_enter Tryz.func18, Tryz.ntmps18
 go_wp2_with fail
 go_loop [5] (fun ii => ∃ i : Nat, ii = .int .i64 (i : Nat) ∧ i ≤ n ∧ Hid (valM L k = valM (L.drop i) k)) (fun ii => n - (intOf ii).toNat)
 case atStart => exact ⟨0, rfl, Nat.zero_le _, rfl⟩
 case round =>
  obtain ⟨i, rfl, hi, hI⟩ := hrel
  by_cases hlt : i < n
  ·obtain ⟨p, hp⟩ : ∃ x, L[i]? = some x := ⟨_, List.getElem?_eq_getElem (by rw [HN.out]; exact hlt)⟩
   obtain ⟨g, o, rfl, hg, m1, m2⟩ := H3.out i p hp
   have hd : L.drop i = p :: L.drop (i + 1) := by
    obtain ⟨h, rfl⟩ := List.getElem?_eq_some_iff.1 hp
    exact List.drop_eq_getElem_cons h
   obtain ⟨x1, x2⟩ := p
   dsimp only at m1 m2
   rw [Nat.mul_comm 2 i] at m1 m2
   have b1 : (0 : Int) ≤ (i : Int) := by omega
   have b2 : (i : Int) < (n : Int) := by omega
   have wi : IntKind.i64.wrap ((i : Int) + 1) = (i : Int) + 1 := by rw [IntWalk.i64_in _ ⟨by omega, by omega⟩]
   by_cases he : x1 = k
   ·subst he
    have hR : valM L x1 = x2 := by rw [hI.out, hd, valM, List.find?_cons_of_pos (by simp)]; rfl
    have HR := hid hR
    clear hp hg hd hR
    go_wp2_with fail
    go_ret
    exact ⟨by rw [HR.out]; rfl, rfl⟩
   ·have hR : Hid (valM L k = valM (L.drop (i + 1)) k) := by show valM L k = _; rw [hI.out, hd, valM, List.find?_cons_of_neg (by simpa using he)]; rfl
    have n1 : (x1.toList == k.toList) = false := by rw [beq_eq_false_iff_ne]; exact ne_tl he
    clear hp hg hd he
    go_wp2_with fail
    go_round
    case rel => exact ⟨i + 1, by go_num, by omega, hR⟩
    case measure => simp [intOf] <;> omega
  ·obtain rfl : i = n := by omega
   have q1 : decide ((i : Int) < (i : Int)) = false := by simp
   have hR : valM L k = ⟨#[48]⟩ := by rw [hI.out, List.drop_of_length_le (by rw [HN.out]; exact Nat.le_refl _)]; rfl
   have HR := hid hR
   clear hlt hR
   go_wp2_with fail
   go_ret
   exact ⟨by rw [HR.out]; rfl, rfl⟩
end Go.Proofs.YtckihjfkafdncaaGreatDoor
namespace Go.Proofs.YtckihjfkafdncaaGreatDoor
open Go.RowKit
open Go.Lib (decDigits nDigits)
def zB (v : Int) : ByteArray := ⟨(Lib.itoa v).toArray⟩
theorem zB_list (v : Int) : (zB v).data.toList = Lib.itoa v := by simp [zB]
theorem zB_nat (n : Nat) : zB (n : Int) = numB n := by
 unfold zB numB
 rw [Lib.itoa_nonneg]
theorem decDigits_inj {a b : Nat} (h : decDigits a = decDigits b) : a = b := by
 have : numB a = numB b := by unfold numB; rw [h]
 exact numB_inj this
theorem zdec_head (n : Nat) (r : List UInt8) : decDigits n ≠ 45 :: r := fun h => by
 have := minus_dec n
 rw [h] at this
 simp [Lib.hasPrefix] at this
theorem zB_inj {v w : Int} (h : zB v = zB w) : v = w := by
 have h1 : Lib.itoa v = Lib.itoa w := by rw [← zB_list, ← zB_list, h]
 unfold Lib.itoa at h1
 split at h1 <;> split at h1
 ·rename_i a b
  have := decDigits_inj (List.cons.inj h1).2
  omega
 ·rename_i a b
  exact absurd h1.symm (zdec_head _ _)
 ·rename_i a b
  exact absurd h1 (zdec_head _ _)
 ·rename_i a b
  have := decDigits_inj h1
  omega
theorem zB_late (v : Int) : (zB v).data.toList ≠ lateB.data.toList := fun h => by
 rw [zB_list] at h
 unfold Lib.itoa at h
 split at h
 ·have := congrArg List.head? h
  simp [lateB] at this
 ·have h2 := numB_late v.toNat
  rw [numB_list] at h2
  exact h2 h
def glM (c : Int → Nat) (t n : Nat) : List (ByteArray × ByteArray) := (List.range (2 * n + 1)).filterMap fun (j : Nat) => if c ((j : Int) - n) = 0 then none else some (zB ((j : Int) - n), shB (c ((j : Int) - n)) t)
def glP (c : Int → Nat) (t n r : Nat) : List (ByteArray × ByteArray) := glM c t n ++ if r = 0 then [] else [(lateB, shB r t)]
theorem glM_mem {c : Int → Nat} {t n : Nat} {p : ByteArray × ByteArray} : p ∈ glM c t n ↔ ∃ v : Int, -(n : Int) ≤ v ∧ v ≤ n ∧ c v ≠ 0 ∧ p = (zB v, shB (c v) t) := by
 unfold glM
 rw [List.mem_filterMap]
 constructor
 ·rintro ⟨j, hj, h⟩
  rw [List.mem_range] at hj
  split at h
  ·cases h
  ·rename_i h0
   exact ⟨(j : Int) - n, by omega, by omega, h0, (Option.some.inj h).symm⟩
 ·rintro ⟨v, h1, h2, h3, rfl⟩
  refine ⟨(v + n).toNat, List.mem_range.2 (by omega), ?_⟩
  rw [show ((v + (n : Int)).toNat : Int) - (n : Int) = v by omega, if_neg h3]
theorem glM_nd (c : Int → Nat) (t n : Nat) : ((glM c t n).map keyL).Nodup := by
 unfold glM
 rw [List.map_filterMap]
 refine List.Pairwise.filterMap (R := fun a b => a ≠ b) _ (fun a b hab x hx y hy => ?_) List.nodup_range
 simp only [Option.map_eq_some_iff] at hx hy
 obtain ⟨p, hp, rfl⟩ := hx
 obtain ⟨q, hq, rfl⟩ := hy
 split at hp
 ·cases hp
 ·split at hq
  ·cases hq
  ·obtain rfl := (Option.some.inj hp).symm
   obtain rfl := (Option.some.inj hq).symm
   intro e
   have := zB_inj (ba_ext e)
   exact hab (by omega)
theorem glP_nd (c : Int → Nat) (t n r : Nat) : ((glP c t n r).map keyL).Nodup := by
 unfold glP
 split
 ·rw [List.append_nil]; exact glM_nd c t n
 ·rw [List.map_append, List.nodup_append]
  refine ⟨glM_nd c t n, by simp, ?_⟩
  intro a ha b hb e
  rw [List.mem_map] at ha
  obtain ⟨p, hp, rfl⟩ := ha
  obtain ⟨v, -, -, -, rfl⟩ := glM_mem.1 hp
  simp at hb
  subst hb
  exact zB_late v e
theorem glP_mem {c : Int → Nat} {t n r : Nat} {p : ByteArray × ByteArray} : p ∈ glP c t n r ↔ (∃ v : Int, -(n : Int) ≤ v ∧ v ≤ n ∧ c v ≠ 0 ∧ p = (zB v, shB (c v) t)) ∨ (r ≠ 0 ∧ p = (lateB, shB r t)) := by
 unfold glP
 rw [List.mem_append, glM_mem]
 refine or_congr Iff.rfl ?_
 split
 ·rename_i h; simp [h]
 ·rename_i h; simp [h]
theorem sortM_same {L M : List (ByteArray × ByteArray)} (h1 : (L.map keyL).Nodup) (h2 : (M.map keyL).Nodup) (h : ∀ p, p ∈ L ↔ p ∈ M) : sortM L = sortM M := by
 have n1 : L.Nodup := List.Pairwise.of_map keyL (fun a b h e => h (congrArg keyL e)) h1
 have n2 : M.Nodup := List.Pairwise.of_map keyL (fun a b h e => h (congrArg keyL e)) h2
 have hp : L.Perm M := (List.perm_ext_iff_of_nodup n1 n2).2 h
 have hs : (sortM L).Perm (sortM M) := ((List.mergeSort_perm L _).trans hp).trans (List.mergeSort_perm M _).symm
 refine List.Perm.eq_of_pairwise (le := fun p q => leB (keyL p) (keyL q) = true) ?_ (sortM_sorted _) (sortM_sorted _) hs
 intro a b ha hb hab hba
 simp only [leB, decide_eq_true_eq] at hab hba
 have e : keyL a = keyL b := List.le_antisymm hab hba
 have hb2 : b ∈ L := (h b).2 (sortM_mem.1 hb)
 have ha2 : a ∈ L := sortM_mem.1 ha
 obtain ⟨i, hi, rfl⟩ := List.getElem_of_mem ha2
 obtain ⟨j, hj, rfl⟩ := List.getElem_of_mem hb2
 have hij : i = j := by
  rcases Nat.lt_trichotomy i j with h3 | h3 | h3
  ·have := List.pairwise_iff_getElem.1 h1 i j (by simpa using hi) (by simpa using hj) h3
   simp only [List.getElem_map, ne_eq] at this
   exact absurd e this
  ·exact h3
  ·have := List.pairwise_iff_getElem.1 h1 j i (by simpa using hj) (by simpa using hi) h3
   simp only [List.getElem_map, ne_eq] at this
   exact absurd e.symm this
 subst hij
 rfl
end Go.Proofs.YtckihjfkafdncaaGreatDoor
namespace Go.Proofs.YtckihjfkafdncaaGreatDoor
open Go.RowKit
theorem sumN_pick (x : Nat) (k : Nat) : ∀ n, sumN (fun j => if j = k then x else 0) n = if k < n then x else 0
 | 0 => by simp [sumN]
 | n + 1 => by
  rw [sumN, sumN_pick x k n]
  by_cases h1 : k < n
  ·rw [if_pos h1, if_neg (by omega), if_pos (by omega)]; rfl
  ·rw [if_neg h1, Nat.zero_add]
   by_cases h2 : n = k
   ·rw [if_pos h2, if_pos (by omega)]
   ·rw [if_neg h2, if_neg (by omega)]
theorem seen_sum (c : Int → Nat) (n : Nat) : ∀ vs : List Int, vs.Nodup → (∀ v ∈ vs, -(n : Int) ≤ v ∧ v ≤ n) → (vs.map c).sum = sumN (fun j => if ((j : Int) - n) ∈ vs then c ((j : Int) - n) else 0) (2 * n + 1)
 | [], _, _ => by
  rw [sumN_congr (d := fun _ => 0) (fun j _ => by simp), sumN_zero]; rfl
 | v :: vs, hn, hb => by
  have ih := seen_sum c n vs (List.nodup_cons.1 hn).2 fun w hw => hb w (List.mem_cons_of_mem _ hw)
  have hv := hb v (List.mem_cons_self ..)
  have hnv := (List.nodup_cons.1 hn).1
  rw [List.map_cons, List.sum_cons, ih]
  have e : sumN (fun j => if ((j : Int) - n) ∈ v :: vs then c ((j : Int) - n) else 0) (2 * n + 1) = sumN (fun j => (if j = (v + n).toNat then c v else 0) + (if ((j : Int) - n) ∈ vs then c ((j : Int) - n) else 0)) (2 * n + 1) := by
   refine sumN_congr fun j hj => ?_
   by_cases h1 : j = (v + n).toNat
   ·have h2 : (j : Int) - n = v := by omega
    rw [h2, if_pos (List.mem_cons_self ..), if_pos h1, if_neg hnv]; rfl
   ·have h2 : (j : Int) - n ≠ v := by omega
    rw [if_neg h1, Nat.zero_add]
    by_cases h3 : ((j : Int) - n) ∈ vs
    ·rw [if_pos h3, if_pos (List.mem_cons_of_mem _ h3)]
    ·rw [if_neg h3, if_neg (fun h => by rcases List.mem_cons.1 h with h | h; exact h2 h; exact h3 h)]
  rw [e, sumN_add, sumN_pick, if_pos (by omega)]
structure Seen (c : Int → Nat) (n : Nat) (left : Int → Bool) (vs : List Int) : Prop where
 nd : vs.Nodup
 mem : ∀ v, v ∈ vs ↔ c v ≠ 0 ∧ left v = false
theorem Seen.start {c : Int → Nat} {n : Nat} {left : Int → Bool} (h : ∀ v, c v ≠ 0 → left v = true) : Seen c n left [] := ⟨List.nodup_nil, fun v => ⟨fun hv => by simp at hv, fun ⟨h1, h2⟩ => by rw [h v h1] at h2; cases h2⟩⟩
theorem Seen.step {c : Int → Nat} {n : Nat} {left left' : Int → Bool} {vs : List Int} {x : Int} (h : Seen c n left vs) (hx : left x = true) (hc : c x ≠ 0) (hl : ∀ v, left' v = (left v && !decide (v = x))) : Seen c n left' (vs ++ [x]) := by
 refine ⟨?_, fun v => ?_⟩
 ·rw [List.nodup_append]
  refine ⟨h.nd, by simp, fun a ha b hb e => ?_⟩
  simp at hb
  subst hb
  subst e
  have := ((h.mem a).1 ha).2
  rw [hx] at this; cases this
 ·rw [List.mem_append, h.mem, hl]
  constructor
  ·rintro (⟨h1, h2⟩ | h1)
   ·exact ⟨h1, by rw [h2]; rfl⟩
   ·simp at h1
    subst h1
    exact ⟨hc, by simp⟩
  ·rintro ⟨h1, h2⟩
   rw [Bool.and_eq_false_iff] at h2
   rcases h2 with h2 | h2
   ·exact .inl ⟨h1, h2⟩
   ·right; simp at h2; simp [h2]
theorem Seen.sum_le {N D : Nat} (hND : N < D) {two : Bool} {n : Nat} {left : Int → Bool} {vs : List Int} (h : Seen (gV N D two n) n left vs) : (vs.map (gV N D two n)).sum ≤ 2 ^ n := by
 rw [seen_sum _ n vs h.nd (fun v hv => by
  have h1 := ((h.mem v).1 hv).1
  rcases Int.lt_or_le v (-(n : Int)) with h2 | h2
  ·exact absurd (gV_out hND (.inl h2)) h1
  ·rcases Int.lt_or_le (n : Int) v with h3 | h3
   ·exact absurd (gV_out hND (.inr h3)) h1
   ·exact ⟨h2, h3⟩)]
 have h1 := gV_sum hND two n
 have h2 : sumN (fun j => if ((j : Int) - n) ∈ vs then gV N D two n ((j : Int) - n) else 0) (2 * n + 1) ≤ sumN (fun j => gV N D two n ((j : Int) - n)) (2 * n + 1) := sumN_le fun j _ => by split <;> omega
 omega
theorem Seen.sum_all {N D : Nat} (hND : N < D) {two : Bool} {n : Nat} {left : Int → Bool} {vs : List Int} (h : Seen (gV N D two n) n left vs) (hl : ∀ v, left v = false) : 2 ^ n - (vs.map (gV N D two n)).sum = gL N D two n := by
 rw [seen_sum _ n vs h.nd (fun v hv => by
  have h1 := ((h.mem v).1 hv).1
  rcases Int.lt_or_le v (-(n : Int)) with h2 | h2
  ·exact absurd (gV_out hND (.inl h2)) h1
  ·rcases Int.lt_or_le (n : Int) v with h3 | h3
   ·exact absurd (gV_out hND (.inr h3)) h1
   ·exact ⟨h2, h3⟩)]
 have h1 := gV_sum hND two n
 have h2 : sumN (fun j => if ((j : Int) - n) ∈ vs then gV N D two n ((j : Int) - n) else 0) (2 * n + 1) = sumN (fun j => gV N D two n ((j : Int) - n)) (2 * n + 1) := sumN_congr fun j _ => by
  split
  ·rfl
  ·rename_i hm
   rw [h.mem] at hm
   by_cases h0 : gV N D two n ((j : Int) - n) = 0
   ·exact h0.symm
   ·exact absurd ⟨h0, hl _⟩ hm
 omega
theorem Seen.pairs {N D : Nat} (hND : N < D) {two : Bool} {n t r : Nat} {left : Int → Bool} {vs : List Int} (h : Seen (gV N D two n) n left vs) (hl : ∀ v, left v = false) :
 (((vs.map fun v => (zB v, shB (gV N D two n v) t)) ++ if r = 0 then [] else [(lateB, shB r t)]).map keyL).Nodup ∧ sortM ((vs.map fun v => (zB v, shB (gV N D two n v) t)) ++ if r = 0 then [] else [(lateB, shB r t)]) = sortM (glP (gV N D two n) t n r) := by
 have hk : ((vs.map fun v => (zB v, shB (gV N D two n v) t)).map keyL).Nodup := by
  rw [List.map_map]
  refine List.Pairwise.map (R := fun a b => a ≠ b) _ (fun a b hab e => hab (zB_inj (ba_ext e))) h.nd
 have nd : (((vs.map fun v => (zB v, shB (gV N D two n v) t)) ++ if r = 0 then [] else [(lateB, shB r t)]).map keyL).Nodup := by
  split
  ·rw [List.append_nil]; exact hk
  ·rw [List.map_append, List.nodup_append]
   refine ⟨hk, by simp, fun a ha b hb e => ?_⟩
   simp only [List.mem_map] at ha
   obtain ⟨p, ⟨v, -, rfl⟩, rfl⟩ := ha
   simp at hb
   subst hb
   exact zB_late v e
 refine ⟨nd, sortM_same nd (glP_nd _ _ _ _) fun p => ?_⟩
 rw [glP_mem, List.mem_append, List.mem_map]
 refine or_congr ?_ ?_
 ·constructor
  ·rintro ⟨v, hv, rfl⟩
   have h1 := ((h.mem v).1 hv).1
   refine ⟨v, ?_, ?_, h1, rfl⟩
   ·rcases Int.lt_or_le v (-(n : Int)) with h2 | h2
    ·exact absurd (gV_out hND (.inl h2)) h1
    ·exact h2
   ·rcases Int.lt_or_le (n : Int) v with h3 | h3
    ·exact absurd (gV_out hND (.inr h3)) h1
    ·exact h3
  ·rintro ⟨v, -, -, h1, rfl⟩
   exact ⟨v, (h.mem v).2 ⟨h1, hl v⟩, rfl⟩
 ·split
  ·rename_i h; simp [h]
  ·rename_i h; simp [h]
def zS (n : Nat) (f : Int → Nat) : Nat := sumN (fun j => f ((j : Int) - n)) (2 * n + 1)
theorem zS_congr {n : Nat} {f g : Int → Nat} (h : ∀ v, -(n : Int) ≤ v → v ≤ n → f v = g v) : zS n f = zS n g :=
 sumN_congr fun j hj => h _ (by omega) (by omega)
theorem zS_add (n : Nat) (f g : Int → Nat) : zS n (fun v => f v + g v) = zS n f + zS n g := sumN_add _ _ _
theorem zS_mul (n k : Nat) (f : Int → Nat) : zS n (fun v => k * f v) = k * zS n f := sumN_mul _ _ _
theorem zS_mulr (n k : Nat) (f : Int → Nat) : zS n (fun v => f v * k) = zS n f * k := by
 rw [zS_congr (g := fun v => k * f v) (fun v _ _ => Nat.mul_comm _ _), zS_mul, Nat.mul_comm]
theorem zS_zero (n : Nat) : zS n (fun _ => 0) = 0 := sumN_zero _
theorem zS_le {n : Nat} {f g : Int → Nat} (h : ∀ v, -(n : Int) ≤ v → v ≤ n → f v ≤ g v) : zS n f ≤ zS n g :=
 sumN_le fun j hj => h _ (by omega) (by omega)
theorem zS_pick {n : Nat} {x : Int} (h1 : -(n : Int) ≤ x) (h2 : x ≤ n) (y : Nat) : zS n (fun v => if v = x then y else 0) = y := by
 unfold zS
 rw [sumN_congr (d := fun j => if j = (x + n).toNat then y else 0) (fun j hj => by
  show (if (j : Int) - n = x then y else 0) = _
  by_cases h : (j : Int) - n = x
  ·rw [if_pos h, if_pos (by omega)]
  ·rw [if_neg h, if_neg (by omega)]), sumN_pick, if_pos (by omega)]
theorem zS_nat {n : Nat} {f : Int → Nat} (h : ∀ v : Int, v < 0 → f v = 0) : zS n f = sumN (fun j => f (j : Int)) (n + 1) := by
 unfold zS
 have split : ∀ (a b : Nat) (u : Nat → Nat), sumN u (a + b) = sumN u a + sumN (fun j => u (a + j)) b := by
  intro a b u
  induction b with
  | zero => rw [Nat.add_zero]; rfl
  | succ b ih => rw [← Nat.add_assoc, sumN, ih, sumN]; omega
 rw [show 2 * n + 1 = n + (n + 1) by omega, split, sumN_congr (d := fun _ => 0) (fun j hj => h _ (by omega)), sumN_zero, Nat.zero_add]
 exact sumN_congr fun j hj => by rw [show ((n + j : Nat) : Int) - n = (j : Int) by omega]
def vw (n : Nat) : List (Int → Nat) → (List Int → Nat) → Nat
 | [], F => F []
 | g :: gs, F => zS n fun x => g x * vw n gs fun r => F (x :: r)
theorem vw_congr {n : Nat} : ∀ {gs : List (Int → Nat)} {F G : List Int → Nat}, (∀ xs, xs.length = gs.length → (∀ x ∈ xs, -(n : Int) ≤ x ∧ x ≤ n) → F xs = G xs) → vw n gs F = vw n gs G
 | [], F, G, h => h [] rfl (by simp)
 | g :: gs, F, G, h => zS_congr fun v h1 h2 => by
  rw [vw_congr (gs := gs) (fun r hr hb => h (v :: r) (by simp [hr]) (by
   intro x hx
   rcases List.mem_cons.1 hx with rfl | hx
   ·exact ⟨h1, h2⟩
   ·exact hb x hx))]
theorem vw_le {n : Nat} : ∀ {gs : List (Int → Nat)} {F G : List Int → Nat}, (∀ xs, xs.length = gs.length → F xs ≤ G xs) → vw n gs F ≤ vw n gs G
 | [], F, G, h => h [] rfl
 | g :: gs, F, G, h => zS_le fun v _ _ => Nat.mul_le_mul_left _ (vw_le (gs := gs) fun r hr => h (v :: r) (by simp [hr]))
theorem vw_add (n : Nat) : ∀ (gs : List (Int → Nat)) (F G : List Int → Nat), vw n gs (fun xs => F xs + G xs) = vw n gs F + vw n gs G
 | [], F, G => rfl
 | g :: gs, F, G => by
  rw [vw, vw, vw, ← zS_add]
  exact zS_congr fun v _ _ => by rw [vw_add n gs, Nat.mul_add]
theorem vw_zero (n : Nat) : ∀ gs : List (Int → Nat), vw n gs (fun _ => 0) = 0
 | [] => rfl
 | g :: gs => by rw [vw, zS_congr (g := fun _ => 0) (fun v _ _ => by rw [vw_zero n gs, Nat.mul_zero]), zS_zero]
theorem vw_sum (n : Nat) (gs : List (Int → Nat)) (F : Nat → List Int → Nat) : ∀ M, vw n gs (fun xs => sumN (fun i => F i xs) M) = sumN (fun i => vw n gs (F i)) M
 | 0 => vw_zero n gs
 | M + 1 => by
  show vw n gs (fun xs => sumN (fun i => F i xs) M + F M xs) = _
  rw [vw_add, vw_sum n gs F M]; rfl
def pPr (n : Nat) : List (Int → Nat) → List (Int → Bool) → Nat
 | g :: gs, p :: ps => zS n (fun x => if p x = true then g x else 0) * pPr n gs ps
 | _, _ => 1
def allP : List (Int → Bool) → List Int → Bool
 | p :: ps, x :: xs => p x && allP ps xs
 | _, _ => true
def b1 (b : Bool) : Nat := if b = true then 1 else 0
theorem vw_prod (n : Nat) : ∀ (gs : List (Int → Nat)) (ps : List (Int → Bool)), gs.length = ps.length → vw n gs (fun xs => b1 (allP ps xs)) = pPr n gs ps
 | [], [], _ => rfl
 | g :: gs, p :: ps, h => by
  have ih := vw_prod n gs ps (by simpa using h)
  rw [vw, pPr, ← zS_mulr]
  refine zS_congr fun v _ _ => ?_
  by_cases hp : p v = true
  ·rw [if_pos hp, ← ih]
   congr 1
   exact vw_congr fun xs _ _ => by rw [allP, hp, Bool.true_and]
  ·rw [if_neg hp, Nat.zero_mul]
   have : vw n gs (fun r => b1 (allP (p :: ps) (v :: r))) = 0 := by
    rw [vw_congr (G := fun _ => 0) (fun xs _ _ => by rw [allP, Bool.eq_false_iff.2 hp]; rfl), vw_zero]
   rw [this, Nat.mul_zero]
def pAll (n : Nat) (gs : List (Int → Nat)) : Nat := vw n gs fun _ => 1
theorem pAll_cons (n : Nat) (g : Int → Nat) (gs : List (Int → Nat)) : pAll n (g :: gs) = zS n g * pAll n gs := by
 unfold pAll
 rw [vw, zS_mulr]
theorem pAll_le {n : Nat} : ∀ {gs : List (Int → Nat)}, (∀ g ∈ gs, zS n g ≤ 2 ^ n) → pAll n gs ≤ 2 ^ (n * gs.length)
 | [], _ => by simp [pAll, vw]
 | g :: gs, h => by
  rw [pAll_cons, List.length_cons, Nat.mul_add, Nat.mul_one, Nat.add_comm, Nat.pow_add]
  exact Nat.mul_le_mul (h g (List.mem_cons_self ..)) (pAll_le fun g' hg => h g' (List.mem_cons_of_mem _ hg))
theorem vw_parts {n M : Nat} {gs : List (Int → Nat)} {F : Nat → List Int → Nat} (h : ∀ xs, xs.length = gs.length → sumN (fun i => F i xs) M ≤ 1) : sumN (fun i => vw n gs (F i)) M ≤ pAll n gs := by
 rw [← vw_sum]
 exact vw_le h
theorem b1_le (b : Bool) : b1 b ≤ 1 := by unfold b1; split <;> omega
theorem sum_one {p : Nat → Bool} (h : ∀ i j, p i = true → p j = true → i = j) : ∀ M, sumN (fun i => b1 (p i)) M ≤ 1
 | 0 => Nat.zero_le _
 | M + 1 => by
  rw [sumN]
  by_cases hp : p M = true
  ·rw [sumN_congr (d := fun _ => 0) (fun i hi => by
    have : p i ≠ true := fun hh => by have := h i M hh hp; omega
    rw [b1, if_neg this]), sumN_zero, Nat.zero_add]
   exact b1_le _
  ·rw [show b1 (p M) = 0 from if_neg hp, Nat.add_zero]
   exact sum_one h M
theorem gV_all {N D : Nat} (h : N < D) (two : Bool) (n : Nat) : zS n (gV N D two n) + gL N D two n = 2 ^ n := gV_sum h two n
open Go.Lib (decDigits nDigits)
theorem dy_nd {x m : Nat} (hx : x ≤ 2 ^ m) (h : m ≤ 1000) : nDigits x ≤ 4000 :=
 Nat.le_trans (nDigits_mono hx) (two_digits h)
def dyB (x m : Nat) : ByteArray := shB x (2 ^ m)
def dyQ (x m : Nat) : Rat := mkRat (x : Int) (2 ^ m)
theorem pow_ne (m : Nat) : 2 ^ m ≠ 0 := Nat.ne_of_gt (Nat.pow_pos (by omega))
theorem dy_tx {x m : Nat} (hx : x ≤ 2 ^ m) (h : m ≤ 1000) : dyB x m = txQ (dyQ x m) :=
 shB_tx (pow_ne m) (dy_nd hx h) (dy_nd (Nat.le_refl _) h)
theorem dy_fits {x m : Nat} (hx : x ≤ 2 ^ m) (h : m ≤ 1000) : ¬ ovQ (dyQ x m) :=
 (dig_frac (pow_ne m) (by simpa using dy_nd hx h) (dy_nd (Nat.le_refl _) h)).fits (by omega) (by omega)
theorem dyQ_mul (x y m k : Nat) : dyQ x m * dyQ y k = dyQ (x * y) (m + k) := by
 unfold dyQ
 rw [Rat.mkRat_mul_mkRat, Int.natCast_mul, Nat.pow_add]
theorem dyQ_add (x y m : Nat) : dyQ x m + dyQ y m = dyQ (x + y) m := by
 unfold dyQ
 rw [Rat.mkRat_add_mkRat _ _ (pow_ne m) (pow_ne m), ← Int.add_mul, Rat.mkRat_mul_right (pow_ne m), Int.natCast_add]
theorem dyQ_sub {x y m : Nat} (h : y ≤ x) : dyQ x m - dyQ y m = dyQ (x - y) m := by
 have := dyQ_add (x - y) y m
 rw [Nat.sub_add_cancel h] at this
 rw [← this, Rat.add_sub_cancel]
theorem dy_mul {x y m k : Nat} (hx : x ≤ 2 ^ m) (hy : y ≤ 2 ^ k) (h : m + k ≤ 1000) : op2B (· * ·) (dyB x m) (dyB y k) = dyB (x * y) (m + k) := by
 have hxy : x * y ≤ 2 ^ (m + k) := by rw [Nat.pow_add]; exact Nat.mul_le_mul hx hy
 rw [dy_tx hx (by omega), dy_tx hy (by omega), (op2_txt (f := (· * ·)) (dy_fits hx (by omega)) (dy_fits hy (by omega)) (by show ¬ ovQ (_ * _); rw [dyQ_mul]; exact dy_fits hxy h)).1]
 show txQ (_ * _) = _
 rw [dyQ_mul, dy_tx hxy h]
theorem dy_add {x y m : Nat} (hx : x + y ≤ 2 ^ m) (h : m ≤ 1000) : op2B (· + ·) (dyB x m) (dyB y m) = dyB (x + y) m := by
 rw [dy_tx (x := x) (by omega) h, dy_tx (x := y) (by omega) h, (op2_txt (f := (· + ·)) (dy_fits (by omega) (by omega)) (dy_fits (by omega) (by omega)) (by show ¬ ovQ (_ + _); rw [dyQ_add]; exact dy_fits hx h)).1]
 show txQ (_ + _) = _
 rw [dyQ_add, dy_tx hx h]
theorem dy_sub {x y m : Nat} (hx : x ≤ 2 ^ m) (hy : y ≤ x) (h : m ≤ 1000) : op2B (· - ·) (dyB x m) (dyB y m) = dyB (x - y) m := by
 rw [dy_tx (x := x) hx h, dy_tx (x := y) (by omega) h, (op2_txt (f := (· - ·)) (dy_fits hx (by omega)) (dy_fits (by omega) (by omega)) (by show ¬ ovQ (_ - _); rw [dyQ_sub hy]; exact dy_fits (by omega) h)).1]
 show txQ (_ - _) = _
 rw [dyQ_sub hy, dy_tx (by omega) h]
theorem dy_up (x m k : Nat) : dyB (x * 2 ^ k) (m + k) = dyB x m := by
 unfold dyB shB
 rw [qmk_nat, qmk_nat, Int.natCast_mul, Nat.pow_add, Rat.mkRat_mul_right (pow_ne k)]
theorem dy_zero (m : Nat) : dyB 0 m = ⟨#[48]⟩ := by
 have := dy_up 0 0 m
 rw [Nat.zero_mul, Nat.zero_add] at this
 rw [this]
 unfold dyB
 rw [shB_tx (by decide) (by decide +kernel) (by decide +kernel)]
 decide +kernel
theorem dy_one : dyB 1 0 = ⟨#[49]⟩ := by
 unfold dyB
 rw [shB_tx (by decide) (by decide +kernel) (by decide +kernel)]
 decide +kernel
theorem dy_full (m : Nat) : dyB (2 ^ m) m = ⟨#[49]⟩ := by
 have := dy_up 1 0 m
 rw [Nat.one_mul, Nat.zero_add] at this
 rw [this, dy_one]
end Go.Proofs.YtckihjfkafdncaaGreatDoor
namespace Go.Proofs.YtckihjfkafdncaaGreatDoor
open Go.RowKit
def amT (s : Nat × Nat × Int) (v : Int) : Nat × Nat × Int := if s.1 = 0 ∨ s.2.2 < v then (s.1 + 1, s.1, v) else (s.1 + 1, s.2.1, s.2.2)
def amS (l : List Int) : Nat × Nat × Int := l.foldl amT (0, 0, 0)
theorem amS_snoc (l : List Int) (v : Int) : amS (l ++ [v]) = amT (amS l) v := by unfold amS; rw [List.foldl_append]; rfl
structure IsMx (l : List Int) (i : Nat) (v : Int) : Prop where
 at_ : l[i]? = some v
 before : ∀ (k : Nat) (x : Int), k < i → l[k]? = some x → x < v
 all : ∀ (k : Nat) (x : Int), l[k]? = some x → x ≤ v
theorem IsMx.uniq {l : List Int} {i j : Nat} {v w : Int} (h : IsMx l i v) (k : IsMx l j w) : i = j := by
 have h1 := h.all _ _ k.at_
 have h2 := k.all _ _ h.at_
 rcases Nat.lt_trichotomy i j with a | a | a
 ·have := k.before _ _ a h.at_; omega
 ·exact a
 ·have := h.before _ _ a k.at_; omega
theorem amS_len (l : List Int) : (amS l).1 = l.length := by
 suffices h : ∀ (l : List Int) s, (l.foldl amT s).1 = s.1 + l.length by unfold amS; rw [h]; exact Nat.zero_add _
 intro l
 induction l with
 | nil => intro s; rfl
 | cons v r ih =>
  intro s
  rw [List.foldl_cons, ih, List.length_cons]
  have : (amT s v).1 = s.1 + 1 := by unfold amT; split <;> rfl
  omega
theorem amS_mx : ∀ n (l : List Int), l.length = n → l ≠ [] → IsMx l (amS l).2.1 (amS l).2.2 := by
 intro n
 induction n with
 | zero => intro l hl hne; exact absurd (List.length_eq_zero_iff.1 hl) hne
 | succ n ih =>
  intro l hl hne
  obtain ⟨r, v, rfl⟩ : ∃ r v, l = r ++ [v] := ⟨l.dropLast, l.getLast hne, (List.dropLast_concat_getLast hne).symm⟩
  rw [List.length_append, List.length_singleton] at hl
  rw [amS_snoc]
  have hlen := amS_len r
  by_cases hr : r = []
  ·subst hr
   refine ⟨rfl, fun k x hk hx => ?_, fun k x hx => ?_⟩
   ·exact absurd hk (Nat.not_lt_zero _)
   ·cases k with
    | zero => simp at hx; subst hx; exact Int.le_refl _
    | succ k => simp at hx
  ·have hm := ih r (by omega) hr
   have hpos : r.length ≠ 0 := fun h => hr (List.length_eq_zero_iff.1 h)
   unfold amT
   have get : ∀ k x, (r ++ [v])[k]? = some x → (k < r.length ∧ r[k]? = some x) ∨ (k = r.length ∧ x = v) := fun k x hx => by
    rw [List.getElem?_append] at hx
    split at hx
    ·exact .inl ⟨by assumption, hx⟩
    ·refine .inr ?_
     by_cases h0 : k - r.length = 0
     ·rw [h0] at hx; simp at hx; exact ⟨by omega, hx.symm⟩
     ·obtain ⟨q, hq⟩ : ∃ q, k - r.length = q + 1 := ⟨k - r.length - 1, by omega⟩
      rw [hq] at hx; simp at hx
   by_cases hv : (amS r).2.2 < v
   ·rw [if_pos (.inr hv)]
    refine ⟨?_, fun k x hk hx => ?_, fun k x hx => ?_⟩
    ·show (r ++ [v])[(amS r).1]? = some v
     rw [hlen]; simp
    ·have hk' : k < r.length := by rw [← hlen]; exact hk
     rcases get k x hx with ⟨_, h⟩ | ⟨h, _⟩
     ·have := hm.all k x h; show x < v; omega
     ·omega
    ·rcases get k x hx with ⟨_, h⟩ | ⟨_, rfl⟩
     ·have := hm.all k x h; show x ≤ v; omega
     ·exact Int.le_refl _
   ·rw [if_neg (by rw [hlen]; omega)]
    have hlt : (amS r).2.1 < r.length := (List.getElem?_eq_some_iff.1 hm.at_).1
    refine ⟨?_, fun k x hk hx => ?_, fun k x hx => ?_⟩
    ·show (r ++ [v])[(amS r).2.1]? = _
     rw [List.getElem?_append_left hlt]; exact hm.at_
    ·rcases get k x hx with ⟨_, h⟩ | ⟨h, _⟩
     ·exact hm.before k x hk h
     ·have : k < (amS r).2.1 := hk; omega
    ·rcases get k x hx with ⟨_, h⟩ | ⟨_, rfl⟩
     ·exact hm.all k x h
     ·show x ≤ (amS r).2.2; omega
def amx (l : List Int) : Nat := (amS l).2.1
theorem amx_iff {l : List Int} {i : Nat} (hne : l ≠ []) : amx l = i ↔ ∃ v, IsMx l i v := by
 have h := amS_mx _ l rfl hne
 constructor
 ·rintro rfl; exact ⟨_, h⟩
 ·rintro ⟨v, hv⟩; exact h.uniq hv
def cmC (g : Int → Nat) (n : Nat) (j : Int) : Nat := sumN (fun x => g (x : Int)) (max 0 (min j ((n : Int) + 1))).toNat
theorem cmC_eq {g : Int → Nat} (n : Nat) (hg : ∀ v : Int, v < 0 → g v = 0) (j : Int) : zS n (fun x => if decide (x < j) = true then g x else 0) = cmC g n j := by
 rw [zS_nat (fun v hv => by rw [hg v hv]; split <;> rfl)]
 unfold cmC
 obtain ⟨m, hm⟩ : ∃ m : Nat, (max 0 (min j ((n : Int) + 1))).toNat = m := ⟨_, rfl⟩
 rw [hm]
 have hmn : m ≤ n + 1 := by omega
 have key : ∀ t, sumN (fun x => if decide ((x : Int) < j) = true then g (x : Int) else 0) t = sumN (fun x => if x < m then g (x : Int) else 0) t ∨ n + 1 < t := by
  intro t
  by_cases ht : n + 1 < t
  ·exact .inr ht
  ·refine .inl (sumN_congr fun x hx => ?_)
   by_cases h : (x : Int) < j
   ·rw [if_pos (decide_eq_true h), if_pos (by omega)]
   ·rw [if_neg (by simpa using h), if_neg (by omega)]
 rcases key (n + 1) with h | h
 ·rw [h]
  obtain ⟨d, hd⟩ : ∃ d, n + 1 = m + d := ⟨n + 1 - m, by omega⟩
  rw [hd]
  clear h hd
  induction d with
  | zero => exact sumN_congr fun x hx => if_pos (by omega)
  | succ d ih => rw [← Nat.add_assoc, sumN, ih, if_neg (by omega), Nat.add_zero]
 ·omega
theorem cmC_le {g : Int → Nat} {n : Nat} (h : zS n g ≤ 2 ^ n) (hg : ∀ v : Int, v < 0 → g v = 0) (j : Int) : cmC g n j ≤ 2 ^ n := by
 rw [← cmC_eq n hg j]
 refine Nat.le_trans (zS_le fun v _ _ => ?_) h
 split <;> omega
def gapP (ci v : Int) (i k : Nat) (ck : Int) : Int → Bool := fun x => if k = i then decide (x = v) else if k < i then decide (x < ci + v - ck) else decide (x < ci + v - ck + 1)
def psL (ci v : Int) (i : Nat) : Nat → List Int → List (Int → Bool)
 | _, [] => []
 | k, ck :: r => gapP ci v i k ck :: psL ci v i (k + 1) r
theorem psL_length (ci v : Int) (i : Nat) : ∀ (l : List Int) k, (psL ci v i k l).length = l.length
 | [], _ => rfl
 | c :: r, k => by rw [psL, List.length_cons, psL_length ci v i r, List.length_cons]
def fkF (g : Int → Nat) (n : Nat) (ci v : Int) (i : Nat) : Nat → List Int → Nat → Nat
 | _, [], p => p
 | k, ck :: r, p => fkF g n ci v i (k + 1) r (if k = i then p else p * cmC g n (if k < i then ci + v - ck else ci + v - ck + 1))
theorem fkF_mul (g : Int → Nat) (n : Nat) (ci v : Int) (i : Nat) : ∀ (l : List Int) (k p : Nat), fkF g n ci v i k l p = p * fkF g n ci v i k l 1
 | [], k, p => (Nat.mul_one p).symm
 | c :: r, k, p => by
  rw [fkF, fkF_mul g n ci v i r, fkF, fkF_mul g n ci v i r (k + 1) (if k = i then 1 else _)]
  split
  ·rw [Nat.one_mul]
  ·rw [Nat.one_mul, Nat.mul_assoc]
theorem fkF_far {g : Int → Nat} {n : Nat} (hg : ∀ v : Int, v < 0 → g v = 0) {ci v : Int} {i : Nat} : ∀ (l : List Int) (k : Nat), (∀ j, j < l.length → k + j ≠ i) → pPr n (List.replicate l.length g) (psL ci v i k l) = fkF g n ci v i k l 1
 | [], k, _ => rfl
 | c :: r, k, h => by
  have h0 : k ≠ i := h 0 (by simp)
  rw [List.length_cons, List.replicate_succ, psL, pPr, fkF, if_neg h0, fkF_mul, Nat.one_mul, fkF_far hg r (k + 1) (fun j hj => by have := h (j + 1) (by simp; omega); omega)]
  congr 1
  unfold gapP
  rw [← cmC_eq n hg]
  refine zS_congr fun x _ _ => ?_
  rw [if_neg h0]
  by_cases hk : k < i
  ·rw [if_pos hk, if_pos hk]
  ·rw [if_neg hk, if_neg hk]
theorem fkF_near {g : Int → Nat} {n : Nat} (hg : ∀ v : Int, v < 0 → g v = 0) {ci v : Int} {i : Nat} (h1 : -(n : Int) ≤ v) (h2 : v ≤ n) : ∀ (l : List Int) (k : Nat), k ≤ i → i < k + l.length → pPr n (List.replicate l.length g) (psL ci v i k l) = fkF g n ci v i k l (g v)
 | [], k, h3, h4 => by simp at h4; omega
 | c :: r, k, h3, h4 => by
  rw [List.length_cons] at h4
  rw [List.length_cons, List.replicate_succ, psL, pPr, fkF]
  by_cases hk : k = i
  ·rw [if_pos hk, fkF_far hg r (k + 1) (fun j hj => by omega), fkF_mul g n ci v i r (k + 1) (g v)]
   congr 1
   rw [zS_congr (g := fun x => if x = v then g v else 0) (fun x _ _ => by
    unfold gapP
    rw [if_pos hk]
    by_cases e : x = v
    ·subst e; simp
    ·rw [if_neg (by simpa using e), if_neg e]), zS_pick h1 h2]
  ·rw [if_neg hk, fkF_near hg h1 h2 r (k + 1) (by omega) (by omega), fkF_mul g n ci v i r (k + 1) (g v * _), fkF_mul g n ci v i r (k + 1) (g v)]
   have : zS n (fun x => if gapP ci v i k c x = true then g x else 0) = cmC g n (if k < i then ci + v - c else ci + v - c + 1) := by
    unfold gapP
    rw [← cmC_eq n hg]
    refine zS_congr fun x _ _ => ?_
    rw [if_neg hk]
    by_cases hl : k < i
    ·rw [if_pos hl, if_pos hl]
    ·rw [if_neg hl, if_neg hl]
   rw [this, ← Nat.mul_assoc, Nat.mul_comm (cmC _ _ _)]
def fkT (g : Int → Nat) (n : Nat) (c : List Int) (i : Nat) : Nat := sumN (fun v => fkF g n (c.getD i 0) (v : Int) i 0 c (g (v : Int))) (n + 1)
def nzV (c xs : List Int) : List Int := List.zipWith (· + ·) c xs
theorem allP_iff {ci v : Int} {i : Nat} : ∀ (l xs : List Int) (k : Nat), xs.length = l.length → (allP (psL ci v i k l) xs = true ↔ ∀ j x ck, l[j]? = some ck → xs[j]? = some x → gapP ci v i (k + j) ck x = true)
 | [], [], k, _ => by simp [psL, allP]
 | c :: r, x :: xs, k, h => by
  rw [psL, allP, Bool.and_eq_true, allP_iff r xs (k + 1) (by simpa using h)]
  constructor
  ·rintro ⟨h1, h2⟩ j y cy hc hy
   cases j with
   | zero => simp at hc hy; subst hc hy; exact h1
   | succ j => simp at hc hy; have := h2 j y cy hc hy; rwa [Nat.add_right_comm] at this
  ·intro h1
   refine ⟨h1 0 x c rfl rfl, fun j y cy hc hy => ?_⟩
   have := h1 (j + 1) y cy (by simpa using hc) (by simpa using hy)
   rwa [Nat.add_right_comm]
theorem nz_get {c xs : List Int} (h : xs.length = c.length) (k : Nat) (y : Int) : (nzV c xs)[k]? = some y ↔ ∃ a b, c[k]? = some a ∧ xs[k]? = some b ∧ y = a + b := by
 unfold nzV
 rw [List.getElem?_zipWith]
 cases c[k]? <;> cases xs[k]? <;> simp [eq_comm]
theorem isMx_iff {c xs : List Int} (h : xs.length = c.length) {i : Nat} {ci v : Int} (hc : c[i]? = some ci) : (allP (psL ci v i 0 c) xs = true) ↔ (xs[i]? = some v ∧ IsMx (nzV c xs) i (ci + v)) := by
 have hi := (List.getElem?_eq_some_iff.1 hc).1
 rw [allP_iff c xs 0 h]
 simp only [Nat.zero_add]
 constructor
 ·intro ha
  have hx : xs[i]? = some v := by
   have h1 := ha i xs[i] ci hc (List.getElem?_eq_getElem (by omega))
   unfold gapP at h1
   rw [if_pos rfl] at h1
   rw [List.getElem?_eq_getElem (by omega)]
   exact congrArg some (of_decide_eq_true h1)
  refine ⟨hx, (nz_get h _ _).2 ⟨ci, v, hc, hx, rfl⟩, fun k y hk hy => ?_, fun k y hy => ?_⟩
  ·obtain ⟨a, b, h1, h2, rfl⟩ := (nz_get h _ _).1 hy
   have := ha k b a h1 h2
   unfold gapP at this
   rw [if_neg (by omega), if_pos hk] at this
   have := of_decide_eq_true this
   omega
  ·obtain ⟨a, b, h1, h2, rfl⟩ := (nz_get h _ _).1 hy
   have := ha k b a h1 h2
   unfold gapP at this
   by_cases hk : k = i
   ·subst hk
    rw [if_pos rfl] at this
    have := of_decide_eq_true this
    rw [hc] at h1; cases h1; omega
   ·rw [if_neg hk] at this
    by_cases hl : k < i
    ·rw [if_pos hl] at this
     have := of_decide_eq_true this
     omega
    ·rw [if_neg hl] at this
     have := of_decide_eq_true this
     omega
 ·rintro ⟨hx, hm⟩ k x ck h1 h2
  unfold gapP
  have hy := (nz_get h _ _).2 ⟨ck, x, h1, h2, rfl⟩
  by_cases hk : k = i
  ·subst hk
   rw [hx] at h2; cases h2
   rw [if_pos rfl]; exact decide_eq_true rfl
  ·rw [if_neg hk]
   by_cases hl : k < i
   ·rw [if_pos hl]
    have := hm.before k _ hl hy
    exact decide_eq_true (by omega)
   ·rw [if_neg hl]
    have := hm.all k _ hy
    exact decide_eq_true (by omega)
theorem vw_zS (n m : Nat) (gs : List (Int → Nat)) (F : Int → List Int → Nat) : vw n gs (fun xs => zS m (fun v => F v xs)) = zS m (fun v => vw n gs (F v)) := vw_sum n gs _ _
theorem fkT_vw {g : Int → Nat} {n : Nat} (hg : ∀ v : Int, v < 0 → g v = 0) {c : List Int} {i : Nat} (hi : i < c.length) : fkT g n c i = vw n (List.replicate c.length g) (fun xs => b1 (decide (amx (nzV c xs) = i))) := by
 have hci : c[i]? = some (c.getD i 0) := by rw [List.getD_eq_getElem?_getD, List.getElem?_eq_getElem hi]; rfl
 obtain ⟨ci, he⟩ : ∃ ci, c.getD i 0 = ci := ⟨_, rfl⟩
 unfold fkT
 rw [he] at hci ⊢
 have e1 : sumN (fun v => fkF g n ci (v : Int) i 0 c (g (v : Int))) (n + 1) = zS n (fun v => pPr n (List.replicate c.length g) (psL ci v i 0 c)) := by
  rw [zS_congr (g := fun v => fkF g n ci v i 0 c (g v)) (fun v h1 h2 => fkF_near hg h1 h2 c 0 (Nat.zero_le _) (by omega)), zS_nat (fun v hv => by rw [fkF_mul, hg v hv, Nat.zero_mul])]
 rw [e1, zS_congr (g := fun v => vw n (List.replicate c.length g) (fun xs => b1 (allP (psL ci v i 0 c) xs))) (fun v _ _ => (vw_prod n _ _ (by rw [List.length_replicate, psL_length])).symm), ← vw_zS]
 refine vw_congr fun xs hl hb => ?_
 rw [List.length_replicate] at hl
 have hne : nzV c xs ≠ [] := fun h => by
  have : (nzV c xs).length = 0 := by rw [h]; rfl
  unfold nzV at this
  rw [List.length_zipWith, hl] at this
  omega
 obtain ⟨v0, hv0⟩ : ∃ v0, xs[i]? = some v0 := ⟨_, List.getElem?_eq_getElem (by omega)⟩
 obtain ⟨b2, b3⟩ := hb v0 (List.mem_of_getElem? hv0)
 by_cases hm : IsMx (nzV c xs) i (ci + v0)
 ·rw [decide_eq_true ((amx_iff hne).2 ⟨_, hm⟩)]
  rw [zS_congr (g := fun v => if v = v0 then 1 else 0) (fun v _ _ => by
   by_cases e : v = v0
   ·subst e
    rw [if_pos rfl, b1, if_pos ((isMx_iff hl hci).2 ⟨hv0, hm⟩)]
   ·rw [if_neg e, b1, if_neg (fun h => by
     have := ((isMx_iff hl hci).1 h).1
     rw [hv0] at this; cases this; exact e rfl)]), zS_pick b2 b3]
  rfl
 ·have hno : ¬ amx (nzV c xs) = i := fun h => by
   obtain ⟨v, hv⟩ := (amx_iff hne).1 h
   obtain ⟨a, b, h1, h2, rfl⟩ := (nz_get hl _ _).1 hv.at_
   rw [hci] at h1; rw [hv0] at h2; cases h1; cases h2
   exact hm hv
  rw [decide_eq_false hno, zS_congr (g := fun _ => 0) (fun v _ _ => by
   rw [b1, if_neg (fun h => by
    obtain ⟨h1, h2⟩ := (isMx_iff hl hci).1 h
    rw [hv0] at h1; cases h1; exact hm h2)]), zS_zero]
  rfl
theorem fkT_sum {g : Int → Nat} {n : Nat} (hg : ∀ v : Int, v < 0 → g v = 0) {c : List Int} {M : Nat} (hM : M ≤ c.length) : sumN (fkT g n c) M ≤ pAll n (List.replicate c.length g) := by
 rw [sumN_congr (fun i hi => fkT_vw hg (Nat.lt_of_lt_of_le hi hM))]
 refine vw_parts fun xs _ => sum_one (p := fun i => decide (amx (nzV c xs) = i)) (fun i j h k => ?_) M
 rw [decide_eq_true_iff] at h k
 omega
theorem fkT_le {g : Int → Nat} {n : Nat} (hg : ∀ v : Int, v < 0 → g v = 0) (hz : zS n g ≤ 2 ^ n) {c : List Int} {M : Nat} (hM : M ≤ c.length) : sumN (fkT g n c) M ≤ 2 ^ (n * c.length) := by
 have := pAll_le (n := n) (gs := List.replicate c.length g) (fun g' h => by rw [List.eq_of_mem_replicate h]; exact hz)
 rw [List.length_replicate] at this
 exact Nat.le_trans (fkT_sum hg hM) this
theorem fkT_all {g : Int → Nat} {n : Nat} (hg : ∀ v : Int, v < 0 → g v = 0) {c : List Int} (hc : c ≠ []) : sumN (fkT g n c) c.length = pAll n (List.replicate c.length g) := by
 rw [sumN_congr (fun i hi => fkT_vw hg hi), ← vw_sum]
 refine vw_congr fun xs hl _ => ?_
 rw [List.length_replicate] at hl
 have hne : nzV c xs ≠ [] := fun h => by
  have : (nzV c xs).length = 0 := by rw [h]; rfl
  unfold nzV at this
  rw [List.length_zipWith, hl, Nat.min_self] at this
  exact hc (List.length_eq_zero_iff.1 this)
 have hlt : amx (nzV c xs) < c.length := by
  have := (List.getElem?_eq_some_iff.1 (amS_mx _ _ rfl hne).at_).1
  unfold nzV at this
  rw [List.length_zipWith, hl, Nat.min_self] at this
  exact this
 rw [sumN_congr (d := fun i => if amx (nzV c xs) = i then 1 else 0) (fun i _ => by
  by_cases e : amx (nzV c xs) = i
  ·rw [if_pos e, b1, if_pos (decide_eq_true e)]
  ·rw [if_neg e, b1, if_neg (by simpa using e)]), sumN_one, if_pos hlt]
open Go.Lib (decDigits nDigits)
def e3 : Nat := 300
def e7 : Nat := 700
theorem one_part {N D : Nat} : ∀ (n j x : Nat), sdx N D j = (x, true) → cvF (oneJ N D) (fun m => 2 ^ m) j n * D ≤ x * 2 ^ n
 | 0, j, x, h => by rw [cvF]; omega
 | n + 1, j, x, h => by
  rw [cvF]
  have eo : oneJ N D (j + 1) = decide (D ≤ 2 * x) := by rw [oneJ, h]; simp
  rw [eo, Nat.pow_succ]
  rcases Nat.lt_trichotomy (2 * x) D with hc | hc | hc
  ·have hs : sdx N D (j + 1) = (2 * x, true) := by rw [sdx, h]; simp; omega
   have ih := one_part n (j + 1) (2 * x) hs
   rw [if_neg (by simp; omega), Nat.zero_add]
   have : 2 * x * 2 ^ n = x * (2 ^ n * 2) := by rw [Nat.mul_comm 2 x, Nat.mul_assoc, Nat.mul_comm 2]
   omega
  ·have hs : (sdx N D (j + 1)).2 = false := by rw [sdx, h]; simp [hc]
   rw [if_pos (by simp; omega), cvF_none n (j + 1) (fun i hi => oneJ_shut hs i hi), Nat.add_zero, ← hc]
   have : 2 ^ n * (2 * x) = x * (2 ^ n * 2) := by rw [Nat.mul_comm 2 x, ← Nat.mul_assoc, Nat.mul_comm (2 ^ n) x, Nat.mul_assoc]
   omega
  ·have hs : sdx N D (j + 1) = (2 * x - D, true) := by
    rw [sdx, h]
    show (if true = true then (if D ≤ 2 * x then (2 * x - D, decide (2 * x ≠ D)) else (2 * x, true)) else (x, true)) = _
    rw [if_pos rfl, if_pos (by omega), decide_eq_true (by omega)]
   have ih := one_part n (j + 1) (2 * x - D) hs
   rw [if_pos (by simp; omega), Nat.add_mul]
   have e1 : x * (2 ^ n * 2) = 2 * x * 2 ^ n := by rw [Nat.mul_comm 2 x, Nat.mul_assoc, Nat.mul_comm 2]
   have e2 : (2 * x - D) * 2 ^ n + D * 2 ^ n = 2 * x * 2 ^ n := by rw [← Nat.add_mul]; congr 1; omega
   have e3 : 2 ^ n * D = D * 2 ^ n := Nat.mul_comm _ _
   omega
theorem zero_part {N D : Nat} : ∀ (n j x : Nat), sdx N D j = (x, true) → x < D → cvF (zeroJ N D) (fun m => 2 ^ m) j n * D ≤ (D - x) * 2 ^ n
 | 0, j, x, h, hx => by rw [cvF]; omega
 | n + 1, j, x, h, hx => by
  rw [cvF]
  have ez : zeroJ N D (j + 1) = decide (2 * x ≤ D) := by rw [zeroJ, h]; simp
  rw [ez, Nat.pow_succ]
  have e1 : (D - x) * (2 ^ n * 2) = 2 * (D - x) * 2 ^ n := by rw [Nat.mul_comm 2 (D - x), Nat.mul_assoc, Nat.mul_comm 2]
  have e3 : 2 ^ n * D = D * 2 ^ n := Nat.mul_comm _ _
  rcases Nat.lt_trichotomy (2 * x) D with hc | hc | hc
  ·have hs : sdx N D (j + 1) = (2 * x, true) := by rw [sdx, h]; simp; omega
   have ih := zero_part n (j + 1) (2 * x) hs hc
   rw [if_pos (by simp; omega), Nat.add_mul]
   have e2 : (D - 2 * x) * 2 ^ n + D * 2 ^ n = 2 * (D - x) * 2 ^ n := by rw [← Nat.add_mul]; congr 1; omega
   omega
  ·have hs : (sdx N D (j + 1)).2 = false := by rw [sdx, h]; simp [hc]
   rw [if_pos (by simp; omega), cvF_none n (j + 1) (fun i hi => zeroJ_shut hs i hi), Nat.add_zero]
   have e2 : 2 * (D - x) * 2 ^ n = D * 2 ^ n := by congr 1; omega
   omega
  ·have hs : sdx N D (j + 1) = (2 * x - D, true) := by
    rw [sdx, h]
    show (if true = true then (if D ≤ 2 * x then (2 * x - D, decide (2 * x ≠ D)) else (2 * x, true)) else (x, true)) = _
    rw [if_pos rfl, if_pos (by omega), decide_eq_true (by omega)]
   have ih := zero_part n (j + 1) (2 * x - D) hs (by omega)
   rw [if_neg (by simp; omega), Nat.zero_add]
   have e2 : (D - (2 * x - D)) * 2 ^ n = 2 * (D - x) * 2 ^ n := by congr 1; omega
   omega
section
variable {N D : Nat} (h : N < D)
include h
theorem one_all (n : Nat) : cvo (chi (oneJ N D)) pw2 n * D ≤ N * 2 ^ n := by
 have o0 : oneJ N D 0 = false := rfl
 rw [cvo_chi, o0, if_neg (by simp), Nat.zero_add]
 by_cases h0 : N = 0
 ·subst h0
  have hs : (sdx 0 D 0).2 = false := by simp [sdx]
  rw [cvF_none n 0 (fun i hi => oneJ_shut hs i hi)]; omega
 ·exact one_part n 0 N (by simp [sdx, h0])
theorem zero_all (n : Nat) : cvo (chi (zeroJ N D)) pw2 n * D ≤ (D - N) * 2 ^ n := by
 rw [cvo_chi]
 by_cases h0 : N = 0
 ·subst h0
  have hs : (sdx 0 D 0).2 = false := by simp [sdx]
  rw [cvF_none n 0 (fun i hi => zeroJ_shut hs i hi), Nat.add_zero]
  have e : (if zeroJ 0 D 0 = true then pw2 n else 0) ≤ 2 ^ n := by
   unfold pw2
   split
   ·exact Nat.le_refl _
   ·exact Nat.zero_le _
  rw [Nat.sub_zero, Nat.mul_comm D]
  exact Nat.mul_le_mul_right _ e
 ·have z0 : zeroJ N D 0 = false := by simp [zeroJ, h0]
  rw [z0, if_neg (by simp), Nat.zero_add]
  exact zero_part n 0 N (by simp [sdx, h0]) h
omit h in
theorem cvo_part {f g : Nat → Nat} {n c d P Q : Nat} (hf : cvo f pw2 n * Q ≤ P * 2 ^ n) (hg : ∀ m, m ≤ n → g m * c ≤ d * 2 ^ m) : cvo f g n * (c * Q) ≤ P * d * 2 ^ n := by
 have h1 : cvo f g n * c ≤ d * cvo f pw2 n := by
  unfold cvo
  rw [Nat.mul_comm, ← sumN_mul, ← sumN_mul]
  refine sumN_le fun s hs => ?_
  have := Nat.mul_le_mul_left (f s) (hg (n - s) (by omega))
  unfold pw2
  calc c * (f s * g (n - s)) = f s * (g (n - s) * c) := by rw [Nat.mul_comm, Nat.mul_assoc]
   _ ≤ f s * (d * 2 ^ (n - s)) := this
   _ = d * (f s * 2 ^ (n - s)) := by rw [← Nat.mul_assoc, Nat.mul_comm (f s), Nat.mul_assoc]
 calc cvo f g n * (c * Q) = cvo f g n * c * Q := (Nat.mul_assoc _ _ _).symm
  _ ≤ d * cvo f pw2 n * Q := Nat.mul_le_mul_right _ h1
  _ = d * (cvo f pw2 n * Q) := Nat.mul_assoc _ _ _
  _ ≤ d * (P * 2 ^ n) := Nat.mul_le_mul_left _ hf
  _ = P * d * 2 ^ n := by rw [← Nat.mul_assoc, Nat.mul_comm d]
theorem oneP_next (i n : Nat) : cw n (oneP N D (i + 1)) = cvo (chi (oneJ N D)) (fun m => cw m (oneP N D i)) n := by
 rw [cw_congr (Q := coinP N D 0 1 (oneP N D i) (fun _ => false)) (fun l _ => oneP_coin h (i + 1) l), cw_first h, cvo_congr (f := chi (zeroJ N D)) (f' := chi (zeroJ N D)) (g' := fun _ => 0) (fun _ _ => rfl) (fun m _ => cw_false m), cvo_zero, Nat.add_zero]
theorem oneP_part : ∀ i n, cw n (oneP N D i) * D ^ (i + 1) ≤ N ^ i * (D - N) * 2 ^ n
 | 0, n => by
  rw [cw_oneP h, cvo_congr (f' := chi (zeroJ N D)) (g' := pw2) (fun s _ => edn_zero N D s) (fun _ _ => rfl)]
  simpa using zero_all h n
 | i + 1, n => by
  rw [oneP_next h, Nat.pow_succ D (i + 1), Nat.pow_succ N i, Nat.mul_comm (N ^ i) N, Nat.mul_assoc N]
  exact cvo_part (one_all h n) fun m _ => oneP_part i m
omit h in
omit h in
omit h in
end
theorem gV_one_le {N D : Nat} (h : N < D) (n i : Nat) : gV N D false n (i : Nat) * D ^ (i + 1) ≤ N ^ i * (D - N) * 2 ^ n := by
 rw [gV_one, if_pos (by omega), Int.toNat_natCast]
 exact oneP_part h i n
theorem gV_one_neg {N D : Nat} (n : Nat) {v : Int} (hv : v < 0) : gV N D false n v = 0 := by rw [gV_one, if_neg (by omega)]
end Go.Proofs.YtckihjfkafdncaaGreatDoor
namespace Go.Proofs.YtckihjfkafdncaaGreatDoor
open Go.RowKit
def msM (N D W : Nat) (v : Int) : Nat := if 0 ≤ v ∧ v ≤ W then N ^ v.toNat * (D - N) * D ^ (W - v.toNat) else 0
theorem msM_neg (N D W : Nat) (v : Int) (h : v < 0) : msM N D W v = 0 := if_neg (by omega)
theorem msM_nat {N D W v : Nat} (h : v ≤ W) : msM N D W (v : Int) = N ^ v * (D - N) * D ^ (W - v) := by
 unfold msM
 rw [if_pos (by omega), Int.toNat_natCast]
theorem msM_part {N D W : Nat} (h : N ≤ D) : ∀ m, m ≤ W + 1 → sumN (fun v => msM N D W (v : Int)) m + N ^ m * D ^ (W + 1 - m) = D ^ (W + 1)
 | 0, _ => by simp [sumN]
 | m + 1, hm => by
  have ih := msM_part (W := W) h m (by omega)
  rw [sumN, msM_nat (by omega)]
  obtain ⟨e, he⟩ : ∃ e, W + 1 - m = e + 1 := ⟨W - m, by omega⟩
  rw [he] at ih
  rw [show W - m = e by omega, show W + 1 - (m + 1) = e by omega]
  have h1 : N ^ m * D ^ (e + 1) = N ^ m * (D - N) * D ^ e + N ^ (m + 1) * D ^ e := by
   obtain ⟨d, rfl⟩ : ∃ d, D = N + d := ⟨D - N, by omega⟩
   rw [show N + d - N = d by omega, Nat.pow_succ, Nat.pow_succ, ← Nat.add_mul, ← Nat.mul_add, Nat.mul_assoc, Nat.mul_comm ((N + d) ^ e), Nat.add_comm d N]
  omega
theorem msM_all {N D : Nat} (W : Nat) (h : N ≤ D) : zS W (msM N D W) ≤ D ^ (W + 1) := by
 rw [zS_nat (msM_neg N D W)]
 have := msM_part (W := W) h (W + 1) (Nat.le_refl _)
 omega
theorem msM_shift {N D W v s : Nat} (h : v + s ≤ W) : msM N D W (v : Int) * N ^ s = msM N D W ((v : Int) + (s : Int)) * D ^ s := by
 rw [← Int.natCast_add, msM_nat (by omega), msM_nat h, show W - v = (W - (v + s)) + s by omega, Nat.pow_add, Nat.pow_add]
 ac_rfl
theorem gV_ms {N D n W v : Nat} (h : N < D) (hv : v ≤ n) (hW : n ≤ W) : gV N D false n (v : Int) * D ^ (W + 1) ≤ msM N D W (v : Int) * 2 ^ n := by
 have h1 := gV_one_le h n v
 rw [msM_nat (by omega), show W + 1 = (v + 1) + (W - v) by omega, Nat.pow_add, ← Nat.mul_assoc]
 refine Nat.le_trans (Nat.mul_le_mul_right _ h1) ?_
 refine Nat.le_of_eq ?_
 ac_rfl
theorem cmC_ms {N D n W : Nat} (h : N < D) (hW : n ≤ W) (j : Int) : cmC (gV N D false n) n j * D ^ (W + 1) ≤ cmC (msM N D W) W j * 2 ^ n := by
 unfold cmC
 obtain ⟨a, ha⟩ : ∃ a : Nat, (max 0 (min j ((n : Int) + 1))).toNat = a := ⟨_, rfl⟩
 obtain ⟨b, hb⟩ : ∃ b : Nat, (max 0 (min j ((W : Int) + 1))).toNat = b := ⟨_, rfl⟩
 rw [ha, hb]
 refine Nat.le_trans ?_ (Nat.mul_le_mul_right _ (sumN_mono (show a ≤ b by omega)))
 have : ∀ m, m ≤ n + 1 → sumN (fun x => gV N D false n (x : Int)) m * D ^ (W + 1) ≤ sumN (fun x => msM N D W (x : Int)) m * 2 ^ n := by
  intro m
  induction m with
  | zero => intro _; simp [sumN]
  | succ m ih =>
   intro hm
   rw [sumN, sumN, Nat.add_mul, Nat.add_mul]
   exact Nat.add_le_add (ih (by omega)) (gV_ms h (by omega) hW)
 exact this a (by omega)
theorem cmC_mono (g : Int → Nat) (n : Nat) {i j : Int} (h : i ≤ j) : cmC g n i ≤ cmC g n j := sumN_mono (by omega)
def mI (i : Nat) : Nat → List Int → Nat
 | _, [] => 0
 | k, _ :: r => (if k = i then 0 else 1) + mI i (k + 1) r
theorem mI_far {i : Nat} : ∀ (l : List Int) (k : Nat), i < k → mI i k l = l.length
 | [], _, _ => rfl
 | c :: r, k, h => by rw [mI, mI_far r (k + 1) (by omega), if_neg (by omega), List.length_cons, Nat.add_comm]
theorem mI_near {i : Nat} : ∀ (l : List Int) (k : Nat), k ≤ i → i < k + l.length → mI i k l + 1 = l.length
 | [], k, h1, h2 => by simp at h2; omega
 | c :: r, k, h1, h2 => by
  rw [List.length_cons] at h2
  rw [mI, List.length_cons]
  by_cases hk : k = i
  ·rw [if_pos hk, mI_far (i := i) r (k + 1) (by omega)]; omega
  ·rw [if_neg hk]
   have := mI_near (i := i) r (k + 1) (by omega) (by omega)
   omega
theorem fk_up {g M : Int → Nat} {n W T E : Nat} (h : ∀ j, cmC g n j * T ≤ cmC M W j * E) {ci v : Int} {i : Nat} : ∀ (l : List Int) (k p q a : Nat), p * T ^ a ≤ q * E ^ a → fkF g n ci v i k l p * T ^ (a + mI i k l) ≤ fkF M W ci v i k l q * E ^ (a + mI i k l)
 | [], k, p, q, a, hp => hp
 | c :: r, k, p, q, a, hp => by
  rw [fkF, fkF, mI]
  by_cases hk : k = i
  ·rw [if_pos hk, if_pos hk, if_pos hk, Nat.zero_add]
   exact fk_up h r (k + 1) p q a hp
  ·rw [if_neg hk, if_neg hk, if_neg hk, ← Nat.add_assoc]
   refine fk_up h r (k + 1) _ _ (a + 1) ?_
   obtain ⟨j, hj⟩ : ∃ j, (if k < i then ci + v - c else ci + v - c + 1) = j := ⟨_, rfl⟩
   rw [hj, Nat.pow_succ, Nat.pow_succ]
   have := Nat.mul_le_mul hp (h j)
   calc p * cmC g n j * (T ^ a * T) = p * T ^ a * (cmC g n j * T) := by ac_rfl
    _ ≤ q * E ^ a * (cmC M W j * E) := this
    _ = q * cmC M W j * (E ^ a * E) := by ac_rfl
theorem fk_mono {g : Int → Nat} {n : Nat} {ci v ci' v' : Int} {i : Nat} : ∀ (l l' : List Int) (k p q : Nat), l.length = l'.length → p ≤ q → (∀ (j : Nat) (a b : Int), l[j]? = some a → l'[j]? = some b → ci + v - a ≤ ci' + v' - b) →
 fkF g n ci v i k l p ≤ fkF g n ci' v' i k l' q
 | [], [], k, p, q, _, hp, _ => hp
 | c :: r, c' :: r', k, p, q, hl, hp, h => by
  rw [fkF, fkF]
  refine fk_mono r r' (k + 1) _ _ (by simpa using hl) ?_ (fun j a b ha hb => h (j + 1) a b (by simpa using ha) (by simpa using hb))
  have h0 := h 0 c c' rfl rfl
  split
  ·exact hp
  ·refine Nat.mul_le_mul hp (cmC_mono g n ?_)
   split <;> omega
theorem sumN_tail (f : Nat → Nat) (s : Nat) : ∀ m, sumN (fun v => f (v + s)) m ≤ sumN f (m + s)
 | 0 => Nat.zero_le _
 | m + 1 => by
  rw [sumN, Nat.add_right_comm, sumN]
  exact Nat.add_le_add_right (sumN_tail f s m) _
theorem pAll_leT {n T : Nat} : ∀ {gs : List (Int → Nat)}, (∀ g ∈ gs, zS n g ≤ T) → pAll n gs ≤ T ^ gs.length
 | [], _ => by simp [pAll, vw]
 | g :: gs, h => by
  rw [pAll_cons, List.length_cons, Nat.pow_succ, Nat.mul_comm (T ^ _)]
  exact Nat.mul_le_mul (h g (List.mem_cons_self ..)) (pAll_leT fun g' hg => h g' (List.mem_cons_of_mem _ hg))
theorem fk_ideal {N D n W : Nat} (h : N < D) (hW : n ≤ W) {c : List Int} {i : Nat} (hi : i < c.length) : fkT (gV N D false n) n c i * (D ^ (W + 1)) ^ c.length ≤ fkT (msM N D W) W c i * (2 ^ n) ^ c.length := by
 have hm := mI_near c 0 (Nat.zero_le _) (by omega : i < 0 + c.length)
 unfold fkT
 refine Nat.le_trans ?_ (Nat.mul_le_mul_right _ (sumN_mono (show n + 1 ≤ W + 1 by omega)))
 have : ∀ m, m ≤ n + 1 → sumN (fun v => fkF (gV N D false n) n (c.getD i 0) (v : Int) i 0 c (gV N D false n (v : Int))) m * (D ^ (W + 1)) ^ c.length ≤ sumN (fun v => fkF (msM N D W) W (c.getD i 0) (v : Int) i 0 c (msM N D W (v : Int))) m * (2 ^ n) ^ c.length := by
  intro m
  induction m with
  | zero => intro _; simp [sumN]
  | succ m ih =>
   intro hm2
   rw [sumN, sumN, Nat.add_mul, Nat.add_mul]
   refine Nat.add_le_add (ih (by omega)) ?_
   have := fk_up (fun j => cmC_ms (W := W) h hW j) (ci := c.getD i 0) (v := (m : Int)) (i := i) c 0 _ _ 1 (by rw [Nat.pow_one, Nat.pow_one]; exact gV_ms h (show m ≤ n by omega) hW)
   rwa [show 1 + mI i 0 c = c.length by omega] at this
 exact this _ (Nat.le_refl _)
theorem fk_near {N D n W s : Nat} (h : N < D) (hW : n + s ≤ W) {c c' : List Int} {i : Nat} (hl : c.length = c'.length) (hi : i < c.length)
 (hs : ∀ (j : Nat) (a b : Int), c[j]? = some a → c'[j]? = some b → (b - a) - (c'.getD i 0 - c.getD i 0) ≤ (s : Int)) :
 fkT (gV N D false n) n c i * (D ^ (W + 1)) ^ c.length * N ^ s ≤ fkT (msM N D W) W c' i * (2 ^ n) ^ c.length * D ^ s := by
 have hm := mI_near c 0 (Nat.zero_le _) (by omega : i < 0 + c.length)
 unfold fkT
 have t1 := sumN_tail (fun v => fkF (msM N D W) W (c'.getD i 0) (v : Int) i 0 c' (msM N D W (v : Int))) s (n + 1)
 have t2 := sumN_mono (f := fun v => fkF (msM N D W) W (c'.getD i 0) (v : Int) i 0 c' (msM N D W (v : Int))) (show n + 1 + s ≤ W + 1 by omega)
 refine Nat.le_trans ?_ (Nat.mul_le_mul_right _ (Nat.mul_le_mul_right _ (Nat.le_trans t1 t2)))
 have : ∀ m, m ≤ n + 1 → sumN (fun v => fkF (gV N D false n) n (c.getD i 0) (v : Int) i 0 c (gV N D false n (v : Int))) m * (D ^ (W + 1)) ^ c.length * N ^ s ≤ sumN (fun v => fkF (msM N D W) W (c'.getD i 0) ((v + s : Nat) : Int) i 0 c' (msM N D W ((v + s : Nat) : Int))) m * (2 ^ n) ^ c.length * D ^ s := by
  intro m
  induction m with
  | zero => intro _; simp [sumN]
  | succ m ih =>
   intro hm2
   rw [sumN, sumN, Nat.add_mul, Nat.add_mul, Nat.add_mul, Nat.add_mul]
   refine Nat.add_le_add (ih (by omega)) ?_
   have u1 := fk_up (fun j => cmC_ms (W := W) h (show n ≤ W by omega) j) (ci := c.getD i 0) (v := (m : Int)) (i := i) c 0 _ _ 1 (by rw [Nat.pow_one, Nat.pow_one]; exact gV_ms h (show m ≤ n by omega) (show n ≤ W by omega))
   rw [show 1 + mI i 0 c = c.length by omega] at u1
   refine Nat.le_trans (Nat.mul_le_mul_right _ u1) ?_
   have u2 : fkF (msM N D W) W (c.getD i 0) (m : Int) i 0 c 1 ≤ fkF (msM N D W) W (c'.getD i 0) ((m + s : Nat) : Int) i 0 c' 1 := fk_mono c c' 0 1 1 hl (Nat.le_refl _) fun j a b ha hb => by
    have := hs j a b ha hb
    rw [Int.natCast_add]; omega
   have u3 := msM_shift (N := N) (D := D) (W := W) (v := m) (s := s) (by omega)
   rw [fkF_mul, fkF_mul (msM N D W) W (c'.getD i 0), Int.natCast_add]
   rw [Int.natCast_add] at u2
   generalize fkF (msM N D W) W (c.getD i 0) (m : Int) i 0 c 1 = X at *
   generalize fkF (msM N D W) W (c'.getD i 0) ((m : Int) + (s : Int)) i 0 c' 1 = Y at *
   generalize msM N D W (m : Int) = A at *
   generalize msM N D W ((m : Int) + (s : Int)) = B at *
   generalize (2 ^ n) ^ c.length = E at *
   calc A * X * E * N ^ s = (A * N ^ s) * (X * E) := by ac_rfl
    _ = (B * D ^ s) * (X * E) := by rw [u3]
    _ ≤ (B * D ^ s) * (Y * E) := Nat.mul_le_mul_left _ (Nat.mul_le_mul_right _ u2)
    _ = B * Y * E * D ^ s := by ac_rfl
 exact this _ (Nat.le_refl _)
theorem fk_private {N D n s : Nat} (h : N < D) {c c' : List Int} (hl : c.length = c'.length) (hs : ∀ (i j : Nat) (a b : Int), i < c.length → c[j]? = some a → c'[j]? = some b → (b - a) - (c'.getD i 0 - c.getD i 0) ≤ (s : Int)) :
 sumN (fun i => fkT (gV N D false n) n c i * N ^ s - fkT (gV N D false n) n c' i * D ^ s) c.length + sumN (fkT (gV N D false n) n c') c.length * D ^ s ≤ 2 ^ (n * c.length) * D ^ s := by
 obtain ⟨T, hT⟩ : ∃ T, (D ^ (n + s + 1)) ^ c.length = T := ⟨_, rfl⟩
 have hTp : 0 < T := by rw [← hT]; exact Nat.pow_pos (Nat.pow_pos (by omega))
 have hE : (2 ^ n) ^ c.length = 2 ^ (n * c.length) := (Nat.pow_mul 2 n c.length).symm
 have hsum : sumN (fkT (msM N D (n + s)) (n + s) c') c.length ≤ T := by
  have := fkT_sum (g := msM N D (n + s)) (n := n + s) (msM_neg N D _) (c := c') (M := c.length) (by omega)
  refine Nat.le_trans this ?_
  have h2 := pAll_leT (n := n + s) (T := D ^ (n + s + 1)) (gs := List.replicate c'.length (msM N D (n + s))) (fun g hg => by rw [List.eq_of_mem_replicate hg]; exact msM_all _ (by omega))
  rw [List.length_replicate] at h2
  rw [← hT, hl]; exact h2
 have hmain : ∀ m, m ≤ c.length → (sumN (fun i => fkT (gV N D false n) n c i * N ^ s - fkT (gV N D false n) n c' i * D ^ s) m + sumN (fkT (gV N D false n) n c') m * D ^ s) * T ≤ sumN (fkT (msM N D (n + s)) (n + s) c') m * 2 ^ (n * c.length) * D ^ s := by
  intro m
  induction m with
  | zero => intro _; simp [sumN]
  | succ m ih =>
   intro hm
   have i1 := ih (by omega)
   have a1 := fk_near (W := n + s) h (Nat.le_refl _) hl (show m < c.length by omega) (fun j a b ha hb => hs m j a b (by omega) ha hb)
   have a2 := fk_ideal (N := N) (D := D) (n := n) (W := n + s) h (by omega) (c := c') (i := m) (by omega)
   rw [← hl] at a2
   rw [hT, hE] at a1 a2
   rw [sumN, sumN, sumN]
   generalize fkT (gV N D false n) n c m = P at *
   generalize fkT (gV N D false n) n c' m = Q at *
   generalize fkT (msM N D (n + s)) (n + s) c' m = X at *
   generalize sumN (fun i => fkT (gV N D false n) n c i * N ^ s - fkT (gV N D false n) n c' i * D ^ s) m = S1 at *
   generalize sumN (fkT (gV N D false n) n c') m = S2 at *
   generalize sumN (fkT (msM N D (n + s)) (n + s) c') m = S3 at *
   generalize 2 ^ (n * c.length) = E at *
   generalize D ^ s = F at *
   generalize N ^ s = G at *
   have key : (P * G - Q * F + Q * F) * T ≤ X * E * F := by
    rcases Nat.le_total (P * G) (Q * F) with hc | hc
    ·rw [Nat.sub_eq_zero_of_le hc, Nat.zero_add]
     calc Q * F * T = Q * T * F := by ac_rfl
      _ ≤ X * E * F := Nat.mul_le_mul_right _ a2
    ·rw [Nat.sub_add_cancel hc]
     calc P * G * T = P * T * G := by ac_rfl
      _ ≤ X * E * F := a1
   calc (S1 + (P * G - Q * F) + (S2 + Q) * F) * T = (S1 + S2 * F) * T + (P * G - Q * F + Q * F) * T := by rw [← Nat.add_mul, Nat.add_mul S2]; congr 1; omega
    _ ≤ S3 * E * F + X * E * F := Nat.add_le_add i1 key
    _ = (S3 + X) * E * F := by rw [Nat.add_mul, Nat.add_mul]
 have := hmain _ (Nat.le_refl _)
 refine Nat.le_of_mul_le_mul_right (Nat.le_trans this ?_) hTp
 calc sumN (fkT (msM N D (n + s)) (n + s) c') c.length * 2 ^ (n * c.length) * D ^ s ≤ T * 2 ^ (n * c.length) * D ^ s := Nat.mul_le_mul_right _ (Nat.mul_le_mul_right _ hsum)
  _ = 2 ^ (n * c.length) * D ^ s * T := by ac_rfl
theorem below_grown {w w' : World} (h : Below w.heap.size w w') (row : Option Nat) : w.grownBy w' row := ⟨h.os, h.tape, h.output, h.size, fun k hk _ => h.block k hk⟩
theorem r1_Order (w : World) (v u : Value) (a b : Nat) (ha : IsN .i64 w v a) (hb : IsN .i64 w u b) :
 Calls Tryz.prog 118 #[v, u] w fun e w' => e = .returned (.int .i64 (ordN a b)) ∧ Below w.heap.size w w' := by
 obtain ⟨a1, c1, rfl, h1, h2, h3⟩ := ha.openI
 obtain ⟨a2, c2, rfl, k1, k2, k3⟩ := hb.openI
 have H3 := hid h3; have K3 := hid k3; clear h3 k3 ha hb
 by_cases hne : (limbs a).length = (limbs b).length
 ·obtain ⟨n, ea⟩ : ∃ n, (limbs a).length = n := ⟨_, rfl⟩
  have eb : (limbs b).length = n := hne.symm.trans ea
  rw [ea] at h1 ⊢
  rw [eb] at k1 ⊢
  have HA := hid ea; have HB := hid eb
  clear hne ea eb
  go_enter Tryz.func118, Tryz.ntmps118
  go_wp2_with fail
  go_loopw [5] (fun i wr => ∃ (k : Nat) (t : Int), k ≤ n ∧ i = .int .i64 t ∧ t = (k : Int) - 1 ∧ Hid ((limbs a).drop k = (limbs b).drop k) ∧ Hid (Below w.heap.size w wr)) (fun i _ => (intOf i + 1).toNat)
  case atStart => exact ⟨n, _, Nat.le_refl _, rfl, rfl, by rw [Hid, List.drop_of_length_le (by rw [HA.out]; exact Nat.le_refl _), List.drop_of_length_le (by rw [HB.out]; exact Nat.le_refl _)], Below.refl _ _⟩
  case round =>
   obtain ⟨k, t, hk, rfl, ht, hd, hB⟩ := hrel
   cases k with
   | zero =>
    obtain rfl : t = -1 := by omega
    clear ht
    go_wp2_with fail
    go_ret
    have : a = b := limbs_inj hd.out
    subst this
    exact ⟨ret_int ordN_eq.symm, hB.out⟩
   | succ k =>
    obtain rfl : t = (k : Int) := by omega
    clear ht
    obtain ⟨x, hx⟩ : ∃ x, (limbs a)[k]? = some x := ⟨_, List.getElem?_eq_getElem (by rw [HA.out]; omega)⟩
    obtain ⟨y, hy⟩ : ∃ y, (limbs b)[k]? = some y := ⟨_, List.getElem?_eq_getElem (by rw [HB.out]; omega)⟩
    obtain ⟨g, o, rfl, hg, hc⟩ := H3.out k x hx
    obtain ⟨g', o', rfl, hg', hc'⟩ := K3.out k y hy
    have d1 := (hB.out.cell (p := ⟨g, o + k, none⟩) hg).trans hc
    have d2 := (hB.out.cell (p := ⟨g', o' + k, none⟩) hg').trans hc'
    have HX := hid hx; have HY := hid hy; clear hx hy hc hc'
    have b1 : (0 : Int) ≤ (k : Int) := by omega
    have b2 : (k : Int) < (n : Int) := by omega
    rcases Nat.lt_trichotomy x y with hlt | heq | hgt
    ·have q1 : decide (x < y) = true := by simpa using hlt
     go_wp2_with fail
     go_quiet (fail)
     go_wp2_with fail
     go_ret
     exact ⟨ret_int (ordN_lt (ord_lt_at (HA.out.trans HB.out.symm) HX.out HY.out hd.out hlt)).symm, below_drewN hB.out _⟩
    ·have q1 : decide (x < y) = false := by simp; omega
     have q2 : decide (y < x) = false := by simp; omega
     go_wp2_with fail
     go_quiet (fail)
     go_wp2_with fail
     go_quiet (fail)
     go_wp2_with fail
     go_roundw
     case rel => exact ⟨k, _, by omega, rfl, rfl, drop_eq_next HX.out (by rw [HY.out, heq]) hd.out, below_drewN hB.out _⟩
     case measure => simp [intOf] <;> omega
    ·have q1 : decide (x < y) = false := by simp; omega
     have q2 : decide (y < x) = true := by simpa using hgt
     go_wp2_with fail
     go_quiet (fail)
     go_wp2_with fail
     go_quiet (fail)
     go_wp2_with fail
     go_ret
     exact ⟨ret_int (ordN_gt (ord_lt_at (HB.out.trans HA.out.symm) HY.out HX.out hd.out.symm hgt)).symm, below_drewN (below_drewN hB.out _) _⟩
 ·rcases Nat.lt_or_gt_of_ne hne with hlt | hgt
  ·have HL := hid (lt_of_length hlt)
   have q0 : (((limbs a).length : Int) != ((limbs b).length : Int)) = true := by simp; omega
   have q1 : decide ((limbs a).length < (limbs b).length) = true := by simpa using hlt
   clear hne
   go_enter Tryz.func118, Tryz.ntmps118
   go_wp2_with fail
   go_ret
   exact ⟨ret_int (ordN_lt HL.out).symm, Below.refl _ _⟩
  ·have HL := hid (lt_of_length hgt)
   have q0 : (((limbs a).length : Int) != ((limbs b).length : Int)) = true := by simp; omega
   have q1 : decide ((limbs a).length < (limbs b).length) = false := by simp; omega
   clear hne
   go_enter Tryz.func118, Tryz.ntmps118
   go_wp2_with fail
   go_ret
   exact ⟨ret_int (ordN_gt HL.out).symm, Below.refl _ _⟩
theorem make_limbs (n : Nat) (hn : n ≤ 3000000) (W : World) : (Instr.makeSlice 82 (.int .i64 (n : Int)) (.int .i64 (n : Int))).run Tryz.prog W = .ok (.slice (some ⟨W.heap.size, 0, none⟩) n n) (W.alloc (.cells (madeCells #[.int .i64 0] n) 3)) :=
 run_make_row' (P := Tryz.prog) 82 3 (.int .i64 0) 8 Tryz.underlying82 (by kernel_rfl) rfl .i64 .i64 n (by omega) (by omega) W
theorem r1_Times (w : World) (v u : Value) (a b : Nat) (ha : IsN .i64 w v a) (hb : IsN .i64 w u b) (hla : (limbs a).length ≤ 1000000) (hlb : (limbs b).length ≤ 1000000) :
 Calls Tryz.prog 110 #[v, u] w fun e w' => RetN .i64 (a * b) e w' ∧ Below w.heap.size w w' := by
 obtain ⟨a1, c1, rfl, h1, h2, h3⟩ := ha.openI
 obtain ⟨a2, c2, rfl, k1, k2, k3⟩ := hb.openI
 have H3 := hid h3; have K3 := hid k3; clear h3 k3 ha hb
 obtain ⟨n, ea⟩ : ∃ n, (limbs a).length = n := ⟨_, rfl⟩
 obtain ⟨m, eb⟩ : ∃ m, (limbs b).length = m := ⟨_, rfl⟩
 rw [ea] at h1 hla ⊢
 rw [eb] at k1 hlb ⊢
 have HA := hid ea; have HB := hid eb
 clear ea eb
 have hmk : ∀ W : World, (Instr.makeSlice 82 (.int .i64 ((n : Int) + m)) (.int .i64 ((n : Int) + m))).run Tryz.prog W = .ok (.slice (some ⟨W.heap.size, 0, none⟩) (n + m) (n + m)) (W.alloc (.cells (madeCells #[.int .i64 0] (n + m)) 3)) := fun W => by
  have := make_limbs (n + m) (by omega) W
  rwa [Int.natCast_add] at this
 go_enter Tryz.func110, Tryz.ntmps110
 go_wp2_with fail
 clear hmk
 go_loopw [6] (fun i wr => ∃ (k : Nat) (o : List Nat), i = .int .i64 k ∧ k ≤ n ∧ Hid (MulI a b k o) ∧ Hid (Arr .i64 3 wr w.heap.size o) ∧ Hid (Below w.heap.size w wr)) (fun i _ => n - (intOf i).toNat)
 case atStart => exact ⟨0, _, rfl, Nat.zero_le _, MulI.start a b, by rw [HA.out, HB.out]; exact Arr.made w .i64 3 (n + m), (Below.refl _ _).alloc (Nat.le_refl _) _⟩
 case round =>
  obtain ⟨i, o, rfl, hin, hM, hO, hB⟩ := hrel
  by_cases hlt : i < n
  ·obtain ⟨x, hx⟩ : ∃ x, (limbs a)[i]? = some x := ⟨_, List.getElem?_eq_getElem (by rw [HA.out]; exact hlt)⟩
   obtain ⟨g, og, rfl, hg, hc⟩ := H3.out _ x hx
   have HX := hid hx; have HC := hid hc; clear hx hc
   have hsize := hid (show o.length = n + m from by rw [hM.out.len, HA.out, HB.out])
   go_wp2_with fail
   obtain ⟨wo, rfl⟩ : ∃ wo : World, wo = wr := ⟨_, rfl⟩
   go_loopw [7, 8, 9] (fun cc kk nn wq => ∃ (c k : Nat) (o : List Nat), cc = .int .i64 c ∧ kk = .int .i64 k ∧ k ≤ m ∧ Hid (MulJ a b i x k c o) ∧ Hid (Arr .i64 3 wq w.heap.size o) ∧ Hid (Below w.heap.size w wq)) (fun _ kk _ _ => m - (intOf kk).toNat)
   case atStart => exact ⟨0, 0, o, rfl, rfl, Nat.zero_le _, hM.out.enter, hO, hB⟩
   case round =>
    obtain ⟨c, k, o, rfl, rfl, hkm, hJ, hO, hB⟩ := hrel
    have hsz : Hid (o.length = n + m) := by rw [Hid, hJ.out.len, HA.out, HB.out]
    by_cases hkl : k < m
    ·obtain ⟨y, hy⟩ : ∃ y, (limbs b)[k]? = some y := ⟨_, List.getElem?_eq_getElem (by rw [HB.out]; exact hkl)⟩
     obtain ⟨g', og', rfl, hg', hd⟩ := K3.out _ y hy
     obtain ⟨old, ho⟩ : ∃ old, o[i + k]? = some old := ⟨_, List.getElem?_eq_getElem (by rw [hsz.out]; omega)⟩
     have d1 := (hB.out.cell (p := ⟨g, og + i, none⟩) hg).trans HC.out
     have d2 := (hB.out.cell (p := ⟨g', og' + k, none⟩) hg').trans hd
     have d3 := hO.out.cell ho
     have d4 := hO.out.free (i + k)
     have hb1 := mul_bound (hJ.out.sm.get ho) ((sm_limbs a).get HX.out) ((sm_limbs b).get hy) hJ.out.c1
     have HN := hid (hJ.out.next HX.out hy ho)
     have hol := hJ.out.sm.get ho
     have hcl := hJ.out.c1
     have HP := hid (show ((x : Int) * (y : Int)) = ((x * y : Nat) : Int) from (Int.natCast_mul x y).symm)
     obtain ⟨p, hp⟩ : ∃ p, x * y = p := ⟨_, rfl⟩
     rw [hp] at hb1 HN HP
     have hp2 := hb1.2; have hb1 := hb1.1
     clear hd hy ho hp
     have e1 : (0 : Int) ≤ (i : Int) + k := by omega
     have e2 : (i : Int) + k < (n : Int) + m := by omega
     have f1 : (0 : Int) ≤ (i : Int) := by omega
     have f2 : (i : Int) < (n : Int) := by omega
     have f3 : (0 : Int) ≤ (k : Int) := by omega
     have f4 : (k : Int) < (m : Int) := by omega
     have e3 : IntKind.i64.wrap ((i : Int) + k) = (i : Int) + k := IntWalk.i64_in _ (by omega)
     have e4 : ((i : Int) + k).toNat = i + k := by omega
     have e5 : IntKind.i64.wrap ((x : Int) * (y : Int)) = (p : Int) := by rw [HP.out]; exact IntWalk.i64_in _ (by omega)
     have e6 : IntKind.i64.wrap ((old : Int) + (p : Int)) = (old : Int) + (p : Int) := IntWalk.i64_in _ (by omega)
     have e7 : IntKind.i64.wrap ((old : Int) + (p : Int) + (c : Int)) = (old : Int) + (p : Int) + (c : Int) := IntWalk.i64_in _ (by omega)
     go_wp2_with fail
     go_quiet (fail)
     clear e3 e4 e5 e6 e7
     go_wp2_with fail
     go_roundw
     case rel =>
      have hz : (((old : Int) + p + c) % 1000000000) = (((old + p + c) % 1000000000 : Nat) : Int) := by omega
      rw [hz]
      exact ⟨(old + p + c) / 1000000000, k + 1, _, by go_num, by go_num, by omega, HN, (hO.out.drewN _).set (i + k) _, below_set (below_drewN hB.out _) (Nat.le_refl _) _⟩
     case measure => simp [intOf] <;> omega
    ·obtain rfl : k = m := by omega
     have HJ := hid (show MulI a b (i + 1) (o.set (i + k) c) from by have := hJ.out; rw [← HB.out] at this ⊢; exact this.leave HX.out)
     obtain ⟨z, hz⟩ : ∃ z, o[i + k]? = some z := ⟨_, List.getElem?_eq_getElem (by rw [hsz.out]; omega)⟩
     have d3 := hO.out.cell hz
     have d4 := hO.out.free (i + k)
     clear hz
     go_wp2_with fail
     go_roundw
     case rel => exact ⟨i + 1, _, by go_num, by omega, HJ, hO.out.set (i + k) c, below_set hB.out (Nat.le_refl _) _⟩
     case measure => simp [intOf] <;> omega
  ·obtain rfl : i = n := by omega
   have hv := hid (show val o = a * b from MulI.done (by have := hM.out; rw [← HA.out] at this; exact this))
   have hl := hid (show o.length = i + m from by rw [hM.out.len, HA.out, HB.out])
   have hr := hid (show Row wr (.slice (some ⟨w.heap.size, 0, none⟩) (i + m) (i + m)) (ints .i64 o) from by
    have := hO.out.row (n := i + m) (c := i + m) (by rw [hl.out]; exact Nat.le_refl _) (Nat.le_refl _) (by unfold maxLen; omega)
    rwa [List.take_of_length_le (by rw [hl.out]; exact Nat.le_refl _)] at this)
   go_wp2_with (go_at_call 97; refine (r1_trim _ _ o hM.out.sm hr.out).mono ?_; rintro e w1 ⟨⟨v1, rfl, hv1⟩, rfl⟩)
   go_ret
   exact ⟨⟨v1, rfl, by rw [← hv.out]; exact hv1⟩, hB.out⟩
theorem r1_ReadF (w : World) (s : ByteArray) (hd : allDig s.data.toList) (hs : s.size ≤ 1000000) :
 Calls Tryz.prog 48 #[.string s] w fun e w' => RetFr w.heap.size .i64 (dv s.data.toList) e w' ∧ Below w.heap.size w w' := by
 obtain ⟨i0, hi, hz0, hz1, hz2⟩ := info_parts info_int
 have HD := hid hd; clear hd
 have hsl := hid (show s.data.toList.length = s.size from by simp)
 go_enter Tryz.func48, Tryz.ntmps48
 go_wp2_with fail
 go_loopw [3, 4, 5, 6] (fun o ee nn ii wr => ∃ (l : List Nat) (t : Int) (e : Nat), ee = .int .i64 t ∧ t ≤ s.size ∧ -9 < t ∧ e = t.toNat ∧ l.length ≤ s.size ∧ l.length + e ≤ s.size ∧ Hid (ReadI s.data.toList e l) ∧ Hid (wr.ownsRow w.heap.size 3 1 o l.length (ints .i64 l)) ∧ Hid (Below w.heap.size w wr))
  (fun _ ee _ _ _ => (intOf ee).toNat)
 case atStart => exact ⟨[], _, s.size, rfl, by omega, by omega, by simp, by simp, by simp, by have := ReadI.start s.data.toList; rw [hsl.out] at this; exact this, World.ownsRow_nil _ _ _ _, Below.refl _ _⟩
 case round =>
  obtain ⟨l, t, e, rfl, ht1, ht2, he, hl1, hl2, hR, hO, hB⟩ := hrel
  obtain ⟨ao, co, rfl⟩ := owns_ex hO.out
  by_cases h0 : e = 0
  ·have q0 : decide ((0 : Int) < t) = false := by simp; omega
   subst h0
   have hv := hid hR.out.done
   clear he
   go_wp2_with fail
   refine (r1_trim_at _ _ _ l hR.out.sm (Row.of_owns hO.out)).mono ?_
   rintro e w1 ⟨⟨m, rfl, hv1⟩, rfl⟩
   go_wp2_with fail
   go_ret
   refine ⟨⟨_, rfl, by rw [← hv.out]; exact hv1, fun g hg => (hO.out.lt g ?_).1⟩, hB.out⟩
   cases ao with
   | none => simp [Value.ownBlock] at hg
   | some ad => simpa [Value.ownBlock] using hg
  ·obtain rfl : t = (e : Int) := by omega
   clear he
   have q0 : decide ((0 : Int) < (e : Int)) = true := by simp; omega
   obtain ⟨L, hL⟩ : ∃ L, s.data.toList = L := ⟨_, rfl⟩
   obtain ⟨s0, hs0⟩ : ∃ s0, s0 = e - 9 := ⟨_, rfl⟩
   have HS0 := hid hs0
   have h3 : s0 ≤ e := by omega
   have h4 : e ≤ s0 + 9 := by omega
   have hI : (9 < e ∧ (e : Int) - 9 = (s0 : Int)) ∨ (e ≤ 9 ∧ (0 : Int) = (s0 : Int)) := by omega
   clear hs0
   rcases hI with ⟨h9, hse⟩ | ⟨h9, hse⟩
   all_goals
    have HSE := hid hse
    clear hse
    go_wp2_with fail
    go_loop [5, 6] (fun nn ii => ∃ (i x : Nat), ii = .int .i64 i ∧ nn = .int .i64 x ∧ s0 ≤ i ∧ i ≤ e ∧ x < 1000000000 ∧ Hid (x = dv ((L.drop s0).take (i - s0)))) (fun _ ii => e - (intOf ii).toNat)
    case atStart => exact ⟨s0, 0, by have hh := HSE.out; first | (rw [← hh]; done) | (congr 1; omega), rfl, Nat.le_refl _, h3, by omega, by simp [Hid]⟩
    case round =>
     obtain ⟨i, x, rfl, rfl, hi1, hi2, hx, hxd⟩ := hrel
     by_cases hlt : i < e
     ·have hsz : i < s.size := by omega
      have hb := byte_get hsz
      rw [hL] at hb
      have hdig := isDig_iff.1 (HD.out s[i] (List.mem_of_getElem? (by rw [hL]; exact hb)))
      have hd1 := hdig.1; have hd2 := hdig.2
      have hcs := hid (chunk_succ hb hi1)
      have hlt9 := hid (chunk_lt (L := L) (a := s0) (k := i + 1 - s0) (by rw [← hL]; exact HD.out) (by omega))
      clear hb hdig
      go_wp2_with fail
      go_round
      case rel =>
       refine ⟨i + 1, 10 * x + (s[i].toNat - 48), by go_num, ?_, by omega, by omega, ?_, ?_⟩
       ·congr 1; omega
       ·have := hlt9.out; rw [hcs.out, ← hxd.out] at this; exact this
       ·rw [Hid, hcs.out, ← hxd.out]
      case measure => simp [intOf] <;> omega
     ·obtain rfl : i = e := by omega
      have HN := hid (hR.out.next HD.out)
      rw [hL, ← HS0.out, ← hxd.out] at HN
      go_wp2_with (at_builtin; refine wpList_append_own _ rfl _ _ 82 rfl w.heap.size 3 i0 (.int .i64 0) 1 8 Tryz.underlying82 hi hz0 hz1 hz2 rfl (by decide) _ l.length _ rfl (hO.out.alloc _) ⟨wr.heap.size, 0, none⟩ 1 1 [.int .i64 (x : Int)] rfl rfl (cell_one_new wr (.int .i64 (x : Int)) 3) (by simp [Value.oneCell']) (by unfold maxLen; omega) (by omega) (by have := hB.out.size; simp; omega) ?_; intro v' w3 hown3 hgrow3 _; have HO3 := hid hown3; have HG3 := hid hgrow3; clear hown3 hgrow3)
      obtain ⟨n1, n2⟩ := own_next hO.out hB.out HO3.out HG3.out
      have N1 := hid n1; have N2 := hid n2; clear n1 n2 HO3 HG3
      obtain ⟨a3, k3, rfl⟩ := owns_ex N1.out
      have hS := HS0.out
      go_wp2_with fail
      go_roundw
      case rel => exact ⟨l ++ [x], _, s0, rfl, by omega, by omega, by omega, by simp <;> omega, by simp <;> omega, by rw [hL]; exact HN, N1, N2⟩
      case measure => simp [intOf] <;> omega
theorem r1_Read (w : World) (s : ByteArray) (hd : allDig s.data.toList) (hs : s.size ≤ 1000000) :
 Calls Tryz.prog 48 #[.string s] w fun e w' => RetN .i64 (dv s.data.toList) e w' ∧ Below w.heap.size w w' := (r1_ReadF w s hd hs).mono fun e w' h => ⟨h.1.ret, h.2⟩
open Go.Lib (decDigits nDigits)
theorem make_bytes (n : Nat) (hn : n ≤ 100000000) (W : World) : (Instr.makeSlice 176 (.int .i64 (n : Int)) (.int .i64 (n : Int))).run Tryz.prog W = .ok (.slice (some ⟨W.heap.size, 0, none⟩) n n) (W.alloc (.cells (madeCells #[.int .u8 0] n) 5)) :=
 run_make_row' (P := Tryz.prog) 176 5 (.int .u8 0) 1 Tryz.underlying176 (by kernel_rfl) rfl .i64 .i64 n (by omega) (by omega) W
theorem r1_Write_zero (w : World) (v : Value) (h : IsN .i64 w v 0) : Calls Tryz.prog 95 #[v] w fun e w' => e = .returned (numV 0) ∧ Below w.heap.size w w' := by
 obtain ⟨a, c, rfl, _⟩ := h.openI
 have hl : (limbs 0).length = 0 := by rw [limbs_zero]; rfl
 rw [hl]
 have e : numV 0 = .string ⟨#[48]⟩ := by rw [numV, dec_zero]
 have E := hid e
 clear h hl e
 go_enter Tryz.func95, Tryz.ntmps95
 go_wp2_with fail
 go_ret
 exact ⟨by rw [E.out]; rfl, Below.refl _ _⟩
theorem r1_Write_pos (w : World) (v : Value) (n : Nat) (h : IsN .i64 w v n) (h0 : 0 < n) (hl : (limbs n).length ≤ 1000000) : Calls Tryz.prog 95 #[v] w fun e w' => e = .returned (numV n) ∧ Below w.heap.size w w' := by
 obtain ⟨a, c, rfl, h1, h2, h3⟩ := h.openI
 have H3 := hid h3; clear h3 h
 obtain ⟨L, hL⟩ : ∃ L, (limbs n).length = L := ⟨_, rfl⟩
 have hLp : 0 < L := by rw [← hL]; exact List.length_pos_iff.2 (fun e => by have := limbs_nil.1 e; omega)
 rw [hL] at h1 hl ⊢
 have HL := hid hL; clear hL
 have q0 : ((L : Int) == 0) = false := by simp; omega
 have hmk : ∀ W : World, (Instr.makeSlice 176 (.int .i64 (9 * (L : Int))) (.int .i64 (9 * (L : Int)))).run Tryz.prog W = .ok (.slice (some ⟨W.heap.size, 0, none⟩) (9 * L) (9 * L)) (W.alloc (.cells (madeCells #[.int .u8 0] (9 * L)) 5)) := fun W => by
  have := make_bytes (9 * L) (by omega) W
  rwa [Int.natCast_mul] at this
 go_enter Tryz.func95, Tryz.ntmps95
 go_wp2_with fail
 clear hmk q0
 go_loopw [4, 5, 6] (fun ii nn kk wr => ∃ (i : Nat) (bs : List UInt8), ii = .int .i64 i ∧ i ≤ L ∧ Hid (WrI n i bs) ∧ Hid (BArr 5 wr w.heap.size bs) ∧ Hid (Below w.heap.size w wr)) (fun ii _ _ _ => L - (intOf ii).toNat)
 case atStart => exact ⟨0, _, rfl, Nat.zero_le _, WrI.start n, by rw [HL.out]; exact BArr.made w 5 (9 * L), (Below.refl _ _).alloc (Nat.le_refl _) _⟩
 case round =>
  obtain ⟨i, bs, rfl, hi, hW, hO, hB⟩ := hrel
  by_cases hlt : i < L
  ·obtain ⟨x, hx⟩ : ∃ x, (limbs n)[L - 1 - i]? = some x := ⟨_, List.getElem?_eq_getElem (by rw [HL.out]; omega)⟩
   obtain ⟨g, o, rfl, hg, hc⟩ := H3.out _ x hx
   have d1 := (hB.out.cell (p := ⟨g, o + (L - 1 - i), none⟩) hg).trans hc
   have hxl := (sm_limbs n).get hx
   have HX := hid hx; clear hx hc
   go_wp2_with fail
   go_loopw [5, 6] (fun nn kk wq => ∃ (k y : Nat) (t : Int) (bs : List UInt8), nn = .int .i64 y ∧ kk = .int .i64 t ∧ t = (k : Int) - 1 ∧ k ≤ 9 ∧ y < 1000000000 ∧ Hid (WrJ n i x k y bs) ∧ Hid (BArr 5 wq w.heap.size bs) ∧ Hid (Below w.heap.size w wq)) (fun _ kk _ => (intOf kk + 1).toNat)
   case atStart => exact ⟨9, x, _, bs, rfl, rfl, by omega, by omega, hxl, hW.out.enter, hO, hB⟩
   case round =>
    obtain ⟨k, y, t, bs2, rfl, rfl, ht, hk, hy, hJ, hO2, hB2⟩ := hrel
    have hbl := hid (show bs2.length = 9 * L from by rw [hJ.out.len, HL.out])
    cases k with
    | zero =>
     obtain rfl : t = -1 := by omega
     clear ht
     have HN := hid (hJ.out.leave (by rw [HL.out]; exact HX.out) (by rw [HL.out]; exact hlt))
     go_wp2_with fail
     go_roundw
     case rel => exact ⟨i + 1, bs2, by go_num, by omega, HN, hO2, hB2⟩
     case measure => simp [intOf] <;> omega
    | succ k =>
     obtain rfl : t = (k : Int) := by omega
     clear ht
     have HN := hid (hJ.out.next (by omega) (by rw [HL.out]; exact hlt))
     obtain ⟨z, hz⟩ : ∃ z, bs2[9 * i + k]? = some z := ⟨_, List.getElem?_eq_getElem (by rw [hbl.out]; omega)⟩
     have d3 := hO2.out.cell hz
     have d4 := hO2.out.free (9 * i + k)
     clear hz
     go_wp2_with fail
     go_roundw
     case rel =>
      refine ⟨k, y / 10, _, bs2.set (9 * i + k) (UInt8.ofNat (48 + y % 10)), by go_num, rfl, by omega, by omega, by omega, HN, ?_, below_set hB2.out (Nat.le_refl _) _⟩
      have hz : (48 + (y : Int) % 10) = ((UInt8.ofNat (48 + y % 10)).toNat : Int) := by rw [digit_ofNat (by omega)]; omega
      rw [hz]
      exact hO2.out.set _ _
     case measure => simp [intOf] <;> omega
  ·obtain rfl : i = L := by omega
   obtain ⟨hdig, hval⟩ := WrI.done (by have := hW.out; rw [← HL.out] at this; exact this)
   have HD := hid hdig; have HV := hid hval
   have hbl := hid (show bs.length = 9 * i from by rw [hW.out.len, HL.out])
   clear hdig hval
   go_wp2_with fail
   go_loop [3] (fun b => ∃ r : Nat, r + 1 ≤ 9 * i ∧ b = .slice (some ⟨w.heap.size, r, none⟩) (9 * i - r) (9 * i - r) ∧ Hid (dv (bs.drop r) = n)) (fun b => match b with | .slice _ m _ => m | _ => 0)
   case atStart => exact ⟨0, by omega, rfl, by rw [Hid, List.drop_zero]; exact HV.out⟩
   case round =>
    obtain ⟨r, hr, rfl, hv⟩ := hrel
    obtain ⟨z, hz⟩ : ∃ z, bs[r]? = some z := ⟨_, List.getElem?_eq_getElem (by rw [hbl.out]; omega)⟩
    have d3 := hO.out.cell hz
    obtain ⟨m, hm⟩ : ∃ m, m = 9 * i - r := ⟨_, rfl⟩
    rw [← hm]
    have hm1 : 1 ≤ m := by omega
    have hm9 : m ≤ 9000000 := by omega
    have HM := hid hm
    by_cases hgo : 1 < m ∧ z = 48
    ·obtain ⟨g1, rfl⟩ := hgo
     have q1 : decide ((1 : Int) < (m : Int)) = true := by simp; omega
     have HN := hid (dv_zero_head hz)
     clear hz hm
     go_wp2_with fail
     go_round
     case rel => exact ⟨r + 1, by have := HM.out; omega, by rw [show 9 * i - (r + 1) = m - 1 by have := HM.out; omega], by rw [Hid, HN.out]; exact hv.out⟩
     case measure => simp; omega
    ·have hfin := hid (strip_done HD.out hv.out (by rw [hbl.out]; omega) (by
      rw [hbl.out]
      by_cases h1 : 1 < m
      ·right
       rw [hz]
       intro e
       injection e with e
       exact hgo ⟨h1, e⟩
      ·left; omega))
     have hcv : (convert 176 9 (.slice (some ⟨w.heap.size, r, none⟩) m m)).run Tryz.prog wr = .ok (numV n) wr := by
      have hlen : (bs.drop r).length = m := by rw [List.length_drop, hbl.out, hm]
      have := Go.run_convert_bytes_back (P := Tryz.prog) wr 176 9 5 ⟨w.heap.size, r, none⟩ m (bs.drop r) Tryz.underlying176 Tryz.underlying5 Tryz.underlying9 (fun j hj => by
       rw [Addr.add_lit]
       refine hO.out.cell ?_
       have h2 : r + j < bs.length := by rw [hlen] at hj; rw [hbl.out]; omega
       rw [List.getElem?_eq_getElem h2, List.getElem_drop])
      rw [hlen, hfin.out] at this
      exact this
     by_cases h1 : 1 < m
     ·have q1 : decide ((1 : Int) < (m : Int)) = true := by simp; omega
      have q2 : ((z.toNat : Int) == 48) = false := by
       rw [beq_eq_false_iff_ne]
       intro e
       refine hgo ⟨h1, ?_⟩
       have : z.toNat = (48 : UInt8).toNat := by simp; omega
       exact UInt8.toNat_inj.1 this
      clear hz hm hgo h1
      go_wp2_with fail
      go_ret
      exact ⟨rfl, hB.out⟩
     ·obtain rfl : m = 1 := by omega
      clear hz hm hgo h1
      go_wp2_with fail
      go_ret
      exact ⟨rfl, hB.out⟩
theorem r1_Check (w : World) (s : ByteArray) (hs : s.size ≤ 9223372036854775807) : Calls Tryz.prog 152 #[.string s] w fun e w' => e = .returned (.int .i64 (errN s.data.toList)) ∧ w = w' := by
 have hsl := hid (show s.data.toList.length = s.size from by simp)
 by_cases h0 : s.size = 0
 ·have hnil : s.data.toList = [] := List.eq_nil_of_length_eq_zero (by rw [hsl.out, h0])
  obtain rfl : s = ⟨#[]⟩ := by
   cases s with
   | mk d => simp at hnil; rw [hnil]
  clear hsl h0 hnil hs
  go_enter Tryz.func152, Tryz.ntmps152
  go_wp2_with fail
  go_ret
  exact ⟨ret_int (by rw [errN_bad]; exact fun h => h.1 rfl), rfl⟩
 ·have hpos : 0 < s.size := by omega
  have hne : s.data.toList.isEmpty = false := by
   rw [List.isEmpty_eq_false_iff]
   intro e
   have := hsl.out; rw [e] at this; simp at this; omega
  have hn : ¬ s.toList = [] := by rw [Go.ByteArray.toList_eq]; intro e; rw [e] at hne; cases hne
  have hn2 : s.toList.isEmpty = false := by rw [Go.ByteArray.toList_eq]; exact hne
  have hb0 := hid (byte_get hpos)
  clear hne
  by_cases hz : s[0] = 48 ∧ 1 < s.size
  ·have q1 : ((s[0].toNat : Int) == 48) = true := by rw [hz.1]; rfl
   have q2 : decide ((1 : Int) < (s.size : Int)) = true := by simp; omega
   have hbad := hid (show ¬ isForm s.data.toList from fun h => by
    rcases h.2.1 with h1 | h1
    ·have := congrArg List.length h1
     rw [hsl.out] at this; simp at this; omega
    ·rw [List.head?_eq_getElem?, hb0.out, hz.1] at h1
     exact h1 rfl)
   clear hz
   go_enter Tryz.func152, Tryz.ntmps152
   go_wp2_with fail
   go_ret
   exact ⟨ret_int (by rw [errN_bad hbad.out]), rfl⟩
  ·have hform : allDig s.data.toList → isForm s.data.toList := fun hd => by
    refine ⟨fun e => by have := hsl.out; rw [e] at this; simp at this; omega, ?_, hd⟩
    by_cases h48 : s[0] = 48
    ·left
     have h1 : s.data.toList.length = 1 := by
      have : ¬ 1 < s.size := fun h => hz ⟨h48, h⟩
      rw [hsl.out]; omega
     match hm : s.data.toList, h1 with
     | [c], _ =>
      have := hb0.out
      rw [hm] at this
      simp at this
      rw [this, h48]
    ·right
     rw [List.head?_eq_getElem?, hb0.out]
     simpa using h48
   have HF := hid hform
   have hI : (((s[0].toNat : Int) == 48) = false ∧ decide ((1 : Int) < (s.size : Int)) = decide ((1 : Int) < (s.size : Int))) ∨ (((s[0].toNat : Int) == 48) = true ∧ decide ((1 : Int) < (s.size : Int)) = false) := by
    by_cases h48 : s[0] = 48
    ·right
     have : ¬ 1 < s.size := fun h => hz ⟨h48, h⟩
     refine ⟨by rw [h48]; rfl, by simp; omega⟩
    ·left
     refine ⟨?_, rfl⟩
     rw [beq_eq_false_iff_ne]
     intro e
     refine h48 ?_
     have : s[0].toNat = (48 : UInt8).toNat := by simp; omega
     exact UInt8.toNat_inj.1 this
   clear hform hz
   rcases hI with ⟨q1, -⟩ | ⟨q1, q2⟩
   all_goals
    go_enter Tryz.func152, Tryz.ntmps152
    go_wp2_with fail
    clear q1
    go_loop [3] (fun ii => ∃ i : Nat, ii = .int .i64 i ∧ i ≤ s.size ∧ Hid (∀ (j : Nat) (b : UInt8), j < i → s.data.toList[j]? = some b → isDig b = true)) (fun ii => s.size - (intOf ii).toNat)
    case atStart => exact ⟨0, rfl, Nat.zero_le _, fun j b hj => absurd hj (by omega)⟩
    case round =>
     obtain ⟨i, rfl, hi, hI⟩ := hrel
     by_cases hlt : i < s.size
     ·have hb := hid (byte_get hlt)
      have hbad : ¬ isDig s[i] = true → ¬ isForm s.data.toList := fun h hf => h (hf.2.2 _ (List.mem_of_getElem? hb.out))
      by_cases c1 : s[i].toNat < 48
      ·have q1 : decide ((s[i].toNat : Int) < 48) = true := by simp; omega
       have hB := hid (hbad (fun e => by have := isDig_iff.1 e; omega))
       clear hbad c1
       go_wp2_with fail
       go_ret
       exact ⟨ret_int (by rw [errN_bad hB.out]), rfl⟩
      ·by_cases c2 : 57 < s[i].toNat
       ·have q1 : decide ((s[i].toNat : Int) < 48) = false := by simp; omega
        have q2 : decide ((57 : Int) < (s[i].toNat : Int)) = true := by simp; omega
        have hB := hid (hbad (fun e => by have := isDig_iff.1 e; omega))
        clear hbad c1 c2
        go_wp2_with fail
        go_ret
        exact ⟨ret_int (by rw [errN_bad hB.out]), rfl⟩
       ·have q1 : decide ((s[i].toNat : Int) < 48) = false := by simp; omega
        have q2 : decide ((57 : Int) < (s[i].toNat : Int)) = false := by simp; omega
        have hD := hid (isDig_iff.2 (show 48 ≤ s[i].toNat ∧ s[i].toNat ≤ 57 by omega))
        clear hbad c1 c2
        go_wp2_with fail
        go_round
        case rel => exact ⟨i + 1, by go_num, by omega, fun j b hj hjb => by
         by_cases e : j = i
         ·subst e; have := hb.out; rw [hjb] at this; cases this; exact hD.out
         ·exact hI.out j b (by omega) hjb⟩
        case measure => simp [intOf] <;> omega
     ·obtain rfl : i = s.size := by omega
      have hF := hid (HF.out fun b hb => by
       obtain ⟨j, hj⟩ := List.getElem?_of_mem hb
       exact hI.out j b (by have := (List.getElem?_eq_some_iff.1 hj).1; rw [hsl.out] at this; exact this) hj)
      by_cases hlong : 4000 < s.size
      ·have q3 : decide ((4000 : Int) < (s.size : Int)) = true := by simp; omega
       have HL := hid hlong; clear hlong
       go_wp2_with fail
       go_ret
       exact ⟨ret_int (by rw [errN_long hF.out (by rw [hsl.out]; exact HL.out)]), rfl⟩
      ·have q3 : decide ((4000 : Int) < (s.size : Int)) = false := by simp; omega
       have HL := hid hlong; clear hlong
       go_wp2_with fail
       go_ret
       exact ⟨ret_int (by rw [errN_ok hF.out (by rw [hsl.out]; exact HL.out)]), rfl⟩
theorem r1_Write (w : World) (v : Value) (n : Nat) (h : IsN .i64 w v n) (hl : (limbs n).length ≤ 1000000) : Calls Tryz.prog 95 #[v] w fun e w' => e = .returned (numV n) ∧ Below w.heap.size w w' := by
 rcases Nat.eq_zero_or_pos n with rfl | h0
 ·exact r1_Write_zero w v h
 ·exact r1_Write_pos w v n h h0 hl
end Go.Proofs.YtckihjfkafdncaaGreatDoor
namespace Go.Proofs.YtckihjfkafdncaaGreatDoor
open Go.RowKit
theorem r1_Plus (w : World) (v u : Value) (a b : Nat) (ha : IsN .i64 w v a) (hb : IsN .i64 w u b) (hla : (limbs a).length ≤ 1000000) (hlb : (limbs b).length ≤ 1000000) :
 Calls Tryz.prog 99 #[v, u] w fun e w' => RetN .i64 (a + b) e w' ∧ Below w.heap.size w w' := by
 obtain ⟨i0, hi, hz0, hz1, hz2⟩ := info_parts info_int
 obtain ⟨a1, c1, rfl, h1, h2, h3⟩ := ha.openI
 obtain ⟨a2, c2, rfl, k1, k2, k3⟩ := hb.openI
 have H3 := hid h3; have K3 := hid k3; clear h3 k3 ha hb
 obtain ⟨n, ea⟩ : ∃ n, (limbs a).length = n := ⟨_, rfl⟩
 obtain ⟨m, eb⟩ : ∃ m, (limbs b).length = m := ⟨_, rfl⟩
 rw [ea] at h1 hla ⊢
 rw [eb] at k1 hlb ⊢
 have HA := hid ea; have HB := hid eb
 clear ea eb
 go_enter Tryz.func99, Tryz.ntmps99
 go_wp2_with fail
 go_loopw [5, 6, 7] (fun o cc i wr => ∃ (s : List Nat) (c : Nat) (C : Int), i = .int .i64 s.length ∧ cc = .int .i64 C ∧ C = (c : Int) ∧ c ≤ 1 ∧ s.length ≤ 1000001 ∧ (s.length ≤ n ∨ s.length ≤ m ∨ c = 0) ∧ Hid (PlusI a b s c) ∧ Hid (wr.ownsRow w.heap.size 3 1 o s.length (ints .i64 s)) ∧ Hid (Below w.heap.size w wr))
  (fun _ _ i _ => 1000002 - (intOf i).toNat)
 case atStart => exact ⟨[], 0, 0, rfl, rfl, rfl, by omega, by simp, .inl (by simp), PlusI.start a b, World.ownsRow_nil _ _ _ _, Below.refl _ _⟩
 case round =>
  obtain ⟨s, c, C, rfl, rfl, hC, hc1, hs1, hs2, hP, hO, hB⟩ := hrel
  obtain ⟨ao, co, rfl⟩ := owns_ex hO.out
  by_cases hA : s.length < n
  ·obtain ⟨x, hx⟩ : ∃ x, (limbs a)[s.length]? = some x := ⟨_, List.getElem?_eq_getElem (by rw [HA.out]; exact hA)⟩
   obtain ⟨g, og, rfl, hg, hc⟩ := H3.out _ x hx
   have hc' := (hB.out.cell (p := ⟨g, og + s.length, none⟩) hg).trans hc
   have hxl := (sm_limbs a).get hx
   have HX := hid hx; clear hx hc
   by_cases hB' : s.length < m
   ·obtain ⟨y, hy⟩ : ∃ y, (limbs b)[s.length]? = some y := ⟨_, List.getElem?_eq_getElem (by rw [HB.out]; exact hB')⟩
    obtain ⟨g', og', rfl, hg', hd⟩ := K3.out _ y hy
    have hd' := (hB.out.cell (p := ⟨g', og' + s.length, none⟩) hg').trans hd
    have hyl := (sm_limbs b).get hy
    have HY := hid hy; clear hy hd
    rcases (show c = 0 ∨ c = 1 by omega) with rfl | rfl
    ·obtain rfl : C = 0 := by omega
     clear hC
     have HN := hid (hP.out.next (by rw [HA.out]; exact .inl hA))
     rw [getD_of HX.out, getD_of HY.out] at HN
     go_wp2_with (at_builtin; refine wpList_append_own _ rfl _ _ 82 rfl w.heap.size 3 i0 (.int .i64 0) 1 8 Tryz.underlying82 hi hz0 hz1 hz2 rfl (by decide) _ s.length _ rfl (hO.out.alloc _) ⟨wr.heap.size, 0, none⟩ 1 1 [.int .i64 ((↑x + ↑y : Int) % 1000000000)] rfl rfl (cell_one_new wr (.int .i64 ((↑x + ↑y : Int) % 1000000000)) 3) (by simp [Value.oneCell']) (by unfold maxLen; omega) (by omega) (by have := hB.out.size; simp; omega) ?_; intro v' w3 hown3 hgrow3 _; have HO3 := hid hown3; have HG3 := hid hgrow3; clear hown3 hgrow3)
     have hz : ((↑x + ↑y : Int) % 1000000000) = (((x + 0 + y) % 1000000000 : Nat) : Int) := by omega
     rw [hz] at HO3
     obtain ⟨n1, n2⟩ := own_next hO.out hB.out HO3.out HG3.out
     have N1 := hid n1; have N2 := hid n2; clear n1 n2 hz HO3 HG3
     obtain ⟨a3, k3, rfl⟩ := owns_ex N1.out
     go_wp2_with fail
     go_roundw
     case rel => exact ⟨s ++ [(x + 0 + y) % 1000000000], (x + 0 + y) / 1000000000, _, by simp, rfl, by omega, HN.out.c1, by simp <;> omega, by simp <;> omega, HN, N1, N2⟩
     case measure => simp [intOf] <;> omega
    ·obtain rfl : C = 1 := by omega
     clear hC
     have HN := hid (hP.out.next (by rw [HA.out]; exact .inl hA))
     rw [getD_of HX.out, getD_of HY.out] at HN
     go_wp2_with (at_builtin; refine wpList_append_own _ rfl _ _ 82 rfl w.heap.size 3 i0 (.int .i64 0) 1 8 Tryz.underlying82 hi hz0 hz1 hz2 rfl (by decide) _ s.length _ rfl (hO.out.alloc _) ⟨wr.heap.size, 0, none⟩ 1 1 [.int .i64 ((1 + ↑x + ↑y : Int) % 1000000000)] rfl rfl (cell_one_new wr (.int .i64 ((1 + ↑x + ↑y : Int) % 1000000000)) 3) (by simp [Value.oneCell']) (by unfold maxLen; omega) (by omega) (by have := hB.out.size; simp; omega) ?_; intro v' w3 hown3 hgrow3 _; have HO3 := hid hown3; have HG3 := hid hgrow3; clear hown3 hgrow3)
     have hz : ((1 + ↑x + ↑y : Int) % 1000000000) = (((x + 1 + y) % 1000000000 : Nat) : Int) := by omega
     rw [hz] at HO3
     obtain ⟨n1, n2⟩ := own_next hO.out hB.out HO3.out HG3.out
     have N1 := hid n1; have N2 := hid n2; clear n1 n2 hz HO3 HG3
     obtain ⟨a3, k3, rfl⟩ := owns_ex N1.out
     go_wp2_with fail
     go_roundw
     case rel => exact ⟨s ++ [(x + 1 + y) % 1000000000], (x + 1 + y) / 1000000000, _, by simp, rfl, by omega, HN.out.c1, by simp <;> omega, by simp <;> omega, HN, N1, N2⟩
     case measure => simp [intOf] <;> omega
   ·skip
    rcases (show c = 0 ∨ c = 1 by omega) with rfl | rfl
    ·obtain rfl : C = 0 := by omega
     clear hC
     have HN := hid (hP.out.next (by rw [HA.out]; exact .inl hA))
     rw [getD_of HX.out, getD_none (by rw [HB.out]; omega)] at HN
     go_wp2_with (at_builtin; refine wpList_append_own _ rfl _ _ 82 rfl w.heap.size 3 i0 (.int .i64 0) 1 8 Tryz.underlying82 hi hz0 hz1 hz2 rfl (by decide) _ s.length _ rfl (hO.out.alloc _) ⟨wr.heap.size, 0, none⟩ 1 1 [.int .i64 ((↑x : Int) % 1000000000)] rfl rfl (cell_one_new wr (.int .i64 ((↑x : Int) % 1000000000)) 3) (by simp [Value.oneCell']) (by unfold maxLen; omega) (by omega) (by have := hB.out.size; simp; omega) ?_; intro v' w3 hown3 hgrow3 _; have HO3 := hid hown3; have HG3 := hid hgrow3; clear hown3 hgrow3)
     have hz : ((↑x : Int) % 1000000000) = (((x + 0 + 0) % 1000000000 : Nat) : Int) := by omega
     rw [hz] at HO3
     obtain ⟨n1, n2⟩ := own_next hO.out hB.out HO3.out HG3.out
     have N1 := hid n1; have N2 := hid n2; clear n1 n2 hz HO3 HG3
     obtain ⟨a3, k3, rfl⟩ := owns_ex N1.out
     go_wp2_with fail
     go_roundw
     case rel => exact ⟨s ++ [(x + 0 + 0) % 1000000000], (x + 0 + 0) / 1000000000, _, by simp, rfl, by omega, HN.out.c1, by simp <;> omega, by simp <;> omega, HN, N1, N2⟩
     case measure => simp [intOf] <;> omega
    ·obtain rfl : C = 1 := by omega
     clear hC
     have HN := hid (hP.out.next (by rw [HA.out]; exact .inl hA))
     rw [getD_of HX.out, getD_none (by rw [HB.out]; omega)] at HN
     go_wp2_with (at_builtin; refine wpList_append_own _ rfl _ _ 82 rfl w.heap.size 3 i0 (.int .i64 0) 1 8 Tryz.underlying82 hi hz0 hz1 hz2 rfl (by decide) _ s.length _ rfl (hO.out.alloc _) ⟨wr.heap.size, 0, none⟩ 1 1 [.int .i64 ((1 + ↑x : Int) % 1000000000)] rfl rfl (cell_one_new wr (.int .i64 ((1 + ↑x : Int) % 1000000000)) 3) (by simp [Value.oneCell']) (by unfold maxLen; omega) (by omega) (by have := hB.out.size; simp; omega) ?_; intro v' w3 hown3 hgrow3 _; have HO3 := hid hown3; have HG3 := hid hgrow3; clear hown3 hgrow3)
     have hz : ((1 + ↑x : Int) % 1000000000) = (((x + 1 + 0) % 1000000000 : Nat) : Int) := by omega
     rw [hz] at HO3
     obtain ⟨n1, n2⟩ := own_next hO.out hB.out HO3.out HG3.out
     have N1 := hid n1; have N2 := hid n2; clear n1 n2 hz HO3 HG3
     obtain ⟨a3, k3, rfl⟩ := owns_ex N1.out
     go_wp2_with fail
     go_roundw
     case rel => exact ⟨s ++ [(x + 1 + 0) % 1000000000], (x + 1 + 0) / 1000000000, _, by simp, rfl, by omega, HN.out.c1, by simp <;> omega, by simp <;> omega, HN, N1, N2⟩
     case measure => simp [intOf] <;> omega
  ·skip
   by_cases hB' : s.length < m
   ·obtain ⟨y, hy⟩ : ∃ y, (limbs b)[s.length]? = some y := ⟨_, List.getElem?_eq_getElem (by rw [HB.out]; exact hB')⟩
    obtain ⟨g', og', rfl, hg', hd⟩ := K3.out _ y hy
    have hd' := (hB.out.cell (p := ⟨g', og' + s.length, none⟩) hg').trans hd
    have hyl := (sm_limbs b).get hy
    have HY := hid hy; clear hy hd
    rcases (show c = 0 ∨ c = 1 by omega) with rfl | rfl
    ·obtain rfl : C = 0 := by omega
     clear hC
     have HN := hid (hP.out.next (by rw [HB.out]; exact .inr (.inl hB')))
     rw [getD_none (by rw [HA.out]; omega), getD_of HY.out] at HN
     go_wp2_with (at_builtin; refine wpList_append_own _ rfl _ _ 82 rfl w.heap.size 3 i0 (.int .i64 0) 1 8 Tryz.underlying82 hi hz0 hz1 hz2 rfl (by decide) _ s.length _ rfl (hO.out.alloc _) ⟨wr.heap.size, 0, none⟩ 1 1 [.int .i64 ((↑y : Int) % 1000000000)] rfl rfl (cell_one_new wr (.int .i64 ((↑y : Int) % 1000000000)) 3) (by simp [Value.oneCell']) (by unfold maxLen; omega) (by omega) (by have := hB.out.size; simp; omega) ?_; intro v' w3 hown3 hgrow3 _; have HO3 := hid hown3; have HG3 := hid hgrow3; clear hown3 hgrow3)
     have hz : ((↑y : Int) % 1000000000) = (((0 + 0 + y) % 1000000000 : Nat) : Int) := by omega
     rw [hz] at HO3
     obtain ⟨n1, n2⟩ := own_next hO.out hB.out HO3.out HG3.out
     have N1 := hid n1; have N2 := hid n2; clear n1 n2 hz HO3 HG3
     obtain ⟨a3, k3, rfl⟩ := owns_ex N1.out
     go_wp2_with fail
     go_roundw
     case rel => exact ⟨s ++ [(0 + 0 + y) % 1000000000], (0 + 0 + y) / 1000000000, _, by simp, rfl, by omega, HN.out.c1, by simp <;> omega, by simp <;> omega, HN, N1, N2⟩
     case measure => simp [intOf] <;> omega
    ·obtain rfl : C = 1 := by omega
     clear hC
     have HN := hid (hP.out.next (by rw [HB.out]; exact .inr (.inl hB')))
     rw [getD_none (by rw [HA.out]; omega), getD_of HY.out] at HN
     go_wp2_with (at_builtin; refine wpList_append_own _ rfl _ _ 82 rfl w.heap.size 3 i0 (.int .i64 0) 1 8 Tryz.underlying82 hi hz0 hz1 hz2 rfl (by decide) _ s.length _ rfl (hO.out.alloc _) ⟨wr.heap.size, 0, none⟩ 1 1 [.int .i64 ((1 + ↑y : Int) % 1000000000)] rfl rfl (cell_one_new wr (.int .i64 ((1 + ↑y : Int) % 1000000000)) 3) (by simp [Value.oneCell']) (by unfold maxLen; omega) (by omega) (by have := hB.out.size; simp; omega) ?_; intro v' w3 hown3 hgrow3 _; have HO3 := hid hown3; have HG3 := hid hgrow3; clear hown3 hgrow3)
     have hz : ((1 + ↑y : Int) % 1000000000) = (((0 + 1 + y) % 1000000000 : Nat) : Int) := by omega
     rw [hz] at HO3
     obtain ⟨n1, n2⟩ := own_next hO.out hB.out HO3.out HG3.out
     have N1 := hid n1; have N2 := hid n2; clear n1 n2 hz HO3 HG3
     obtain ⟨a3, k3, rfl⟩ := owns_ex N1.out
     go_wp2_with fail
     go_roundw
     case rel => exact ⟨s ++ [(0 + 1 + y) % 1000000000], (0 + 1 + y) / 1000000000, _, by simp, rfl, by omega, HN.out.c1, by simp <;> omega, by simp <;> omega, HN, N1, N2⟩
     case measure => simp [intOf] <;> omega
   ·skip
    rcases (show c = 0 ∨ c = 1 by omega) with rfl | rfl
    ·obtain rfl : C = 0 := by omega
     clear hC
     have hs := hid (hP.out.done (by rw [HA.out]; exact hA) (by rw [HB.out]; exact hB') rfl)
     go_wp2_with fail
     go_ret
     exact ⟨⟨_, rfl, owns_isN hO.out hs.out⟩, hB.out⟩
    ·obtain rfl : C = 1 := by omega
     clear hC
     have HN := hid (hP.out.next (by exact .inr (.inr (by omega))))
     rw [getD_none (by rw [HA.out]; omega), getD_none (by rw [HB.out]; omega)] at HN
     go_wp2_with (at_builtin; refine wpList_append_own _ rfl _ _ 82 rfl w.heap.size 3 i0 (.int .i64 0) 1 8 Tryz.underlying82 hi hz0 hz1 hz2 rfl (by decide) _ s.length _ rfl (hO.out.alloc _) ⟨wr.heap.size, 0, none⟩ 1 1 [.int .i64 (1)] rfl rfl (cell_one_new wr (.int .i64 (1)) 3) (by simp [Value.oneCell']) (by unfold maxLen; omega) (by omega) (by have := hB.out.size; simp; omega) ?_; intro v' w3 hown3 hgrow3 _; have HO3 := hid hown3; have HG3 := hid hgrow3; clear hown3 hgrow3)
     have hz : (1) = (((0 + 1 + 0) % 1000000000 : Nat) : Int) := by omega
     rw [hz] at HO3
     obtain ⟨n1, n2⟩ := own_next hO.out hB.out HO3.out HG3.out
     have N1 := hid n1; have N2 := hid n2; clear n1 n2 hz HO3 HG3
     obtain ⟨a3, k3, rfl⟩ := owns_ex N1.out
     go_wp2_with fail
     go_roundw
     case rel => exact ⟨s ++ [(0 + 1 + 0) % 1000000000], (0 + 1 + 0) / 1000000000, _, by simp, rfl, by omega, HN.out.c1, by simp <;> omega, by simp <;> omega, HN, N1, N2⟩
     case measure => simp [intOf] <;> omega
theorem r2_digits (w : World) (s : ByteArray) (hs : s.size ≤ 9223372036854775807) : Calls Tryz.prog 162 #[.string s] w fun e w' =>
 e = .returned (.bool (formB s.data.toList)) ∧ w = w' := by
 by_cases hf : formB s.data.toList = true
 ·by_cases hl : 4000 < s.data.toList.length
  ·have H5 := hid (show errN s.data.toList = 5 from by rw [errN, if_pos hf, if_pos hl])
   have HF := hid hf
   rw [hf]
   clear hf hl
   go_enter Tryz.func162, Tryz.ntmps162
   go_wp2_with fail
   refine (r1_Check _ s hs).mono ?_; rintro e w1 ⟨rfl, rfl⟩
   rw [H5.out]
   go_wp2_with fail
   go_ret
   exact ⟨rfl, rfl⟩
  ·have H5 := hid (show errN s.data.toList = 0 from by rw [errN, if_pos hf, if_neg hl])
   have HF := hid hf
   rw [hf]
   clear hf hl
   go_enter Tryz.func162, Tryz.ntmps162
   go_wp2_with fail
   refine (r1_Check _ s hs).mono ?_; rintro e w1 ⟨rfl, rfl⟩
   rw [H5.out]
   go_wp2_with fail
   go_ret
   exact ⟨rfl, rfl⟩
 ·have H5 := hid (show errN s.data.toList = 3 from by rw [errN, if_neg hf])
  have hf' : formB s.data.toList = false := by simpa using hf
  rw [hf']
  clear hf hf'
  go_enter Tryz.func162, Tryz.ntmps162
  go_wp2_with fail
  refine (r1_Check _ s hs).mono ?_; rintro e w1 ⟨rfl, rfl⟩
  rw [H5.out]
  go_wp2_with fail
  go_ret
  exact ⟨rfl, rfl⟩
def isSlash (l : List UInt8) (k : Nat) : Prop := k ≤ l.length ∧ (∀ (j : Nat) (b : UInt8), j < k → l[j]? = some b → b ≠ 47) ∧ (k < l.length → l[k]? = some 47)
theorem r2_slash (w : World) (s : ByteArray) (hs : s.size ≤ 9223372036854775807) : Calls Tryz.prog 161 #[.string s] w fun e w' =>
 (∃ k : Nat, e = .returned (.int .i64 k) ∧ isSlash s.data.toList k) ∧ w = w' := by
 have hsl := hid (show s.data.toList.length = s.size from by simp)
 go_enter Tryz.func161, Tryz.ntmps161
 go_wp2_with fail
 go_loop [3] (fun ii => ∃ i : Nat, ii = .int .i64 i ∧ i ≤ s.size ∧ Hid (∀ (j : Nat) (b : UInt8), j < i → s.data.toList[j]? = some b → b ≠ 47)) (fun ii => s.size - (intOf ii).toNat)
 case atStart => exact ⟨0, rfl, Nat.zero_le _, fun j b hj => absurd hj (by omega)⟩
 case round =>
  obtain ⟨i, rfl, hi, hI⟩ := hrel
  by_cases hlt : i < s.size
  ·have hb := hid (byte_get hlt)
   by_cases c1 : s[i] = 47
   ·have q1 : ((s[i].toNat : Int) == 47) = true := by rw [c1]; rfl
    have hB := hid c1
    clear c1
    go_wp2_with fail
    go_ret
    exact ⟨⟨i, rfl, by rw [hsl.out]; omega, hI.out, fun _ => by rw [hb.out, hB.out]⟩, rfl⟩
   ·have q1 : ((s[i].toNat : Int) == 47) = false := by
     rw [beq_eq_false_iff_ne]
     intro e
     refine c1 ?_
     have : s[i].toNat = (47 : UInt8).toNat := by simp; omega
     exact UInt8.toNat_inj.1 this
    have hB := hid c1
    clear c1
    go_wp2_with fail
    go_round
    case rel => exact ⟨i + 1, by go_num, by omega, fun j b hj hjb => by
     by_cases e : j = i
     ·subst e; rw [hb.out] at hjb; cases hjb; exact hB.out
     ·exact hI.out j b (by omega) hjb⟩
    case measure => simp [intOf] <;> omega
  ·have e1 : i = s.size := by omega
   subst e1
   go_wp2_with fail
   go_ret
   exact ⟨⟨s.size, rfl, by rw [hsl.out]; omega, hI.out, fun h => by rw [hsl.out] at h; omega⟩, rfl⟩
end Go.Proofs.YtckihjfkafdncaaGreatDoor
