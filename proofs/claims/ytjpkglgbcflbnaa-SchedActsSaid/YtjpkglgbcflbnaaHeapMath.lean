/- Plain mathematics: binary heaps of pairs of numbers, and their order. No program in sight. -/
import Derived.WalkKit
namespace Go.Proofs.Ytjpkglgbcflbnaa

abbrev Tk := Int × Int

def cmpI (a b : Int) : Int := if a < b then -1 else if b < a then 1 else 0
def orI (a b : Int) : Int := if a = 0 then b else a
def ordI (p q : Int × Int) : Int := orI (cmpI p.1 q.1) (cmpI p.2 q.2)

/-- p comes no later than q. -/
def tle (p q : Tk) : Prop := p.1 < q.1 ∨ (p.1 = q.1 ∧ p.2 ≤ q.2)

theorem ordI_neg (p q : Tk) : ordI p q < 0 ↔ ¬ tle q p := by
  unfold ordI orI cmpI tle; (repeat' split) <;> omega

theorem tle_refl (p : Tk) : tle p p := by unfold tle; omega
theorem tle_trans {p q r : Tk} (h : tle p q) (k : tle q r) : tle p r := by unfold tle at *; omega
theorem tle_total (p q : Tk) : tle p q ∨ tle q p := by unfold tle; omega
theorem tle_antisymm {p q : Tk} (h : tle p q) (k : tle q p) : p = q := by
  unfold tle at *
  obtain ⟨a, b⟩ := p; obtain ⟨c, d⟩ := q
  simp only at *
  have : a = c := by omega
  have : b = d := by omega
  simp [*]
theorem not_tle {p q : Tk} (h : ¬ tle p q) : tle q p := (tle_total p q).resolve_left h

def G (d : Array Tk) (i : Nat) : Tk := d[i]?.getD (0, 0)

/-- Exchange two places. -/
def sw (d : Array Tk) (i j : Nat) : Array Tk := d.swapIfInBounds i j

@[simp] theorem size_sw (d : Array Tk) (i j : Nat) : (sw d i j).size = d.size := by simp [sw]

theorem sw_perm (d : Array Tk) (i j : Nat) : (sw d i j).Perm d := by
  unfold sw Array.swapIfInBounds
  split
  · split
    · exact Array.swap_perm ..
    · exact .refl _
  · exact .refl _

theorem G_sw (d : Array Tk) {i j : Nat} (hi : i < d.size) (hj : j < d.size) (k : Nat) : G (sw d i j) k = if k = i then G d j else if k = j then G d i else G d k := by
  unfold G sw
  rw [Array.swapIfInBounds_def]
  rw [dif_pos hi, dif_pos hj]
  by_cases hk : k < d.size
  · rw [Array.getElem?_eq_getElem (by simpa using hk), Array.getElem_swap]
    split
    · rename_i h; subst h; simp [hj]
    · split
      · rename_i h; subst h; simp [hi]
      · simp [hk]
  · rw [Array.getElem?_eq_none (by simpa using hk)]
    have h1 : k ≠ i := by omega
    have h2 : k ≠ j := by omega
    simp [h1, h2, Array.getElem?_eq_none (Nat.le_of_not_lt hk)]

/-- A heap: each comes no later than its children. -/
def Heaped (d : Array Tk) (n : Nat) : Prop := ∀ k, 0 < k → k < n → tle (G d ((k - 1) / 2)) (G d k)

theorem Heaped.root {d : Array Tk} {n : Nat} (h : Heaped d n) : ∀ k, k < n → tle (G d 0) (G d k) := by
  intro k
  induction k using Nat.strongRecOn with
  | _ k ih =>
    intro hk
    by_cases h0 : k = 0
    · subst h0; exact tle_refl _
    · exact tle_trans (ih ((k - 1) / 2) (by omega) (by omega)) (h k (by omega) hk)

/-- A heap but for what stands above j. -/
def UpInv (d : Array Tk) (n j : Nat) : Prop := (∀ k, 0 < k → k < n → k ≠ j → tle (G d ((k - 1) / 2)) (G d k)) ∧ (∀ k, 0 < k → k < n → (k - 1) / 2 = j → 0 < j → tle (G d ((j - 1) / 2)) (G d k))

theorem UpInv.done {d : Array Tk} {n j : Nat} (h : UpInv d n j) (hj : j = 0 ∨ tle (G d ((j - 1) / 2)) (G d j)) : Heaped d n := by
  intro k h0 hk
  by_cases e : k = j
  · subst e
    rcases hj with h' | h'
    · omega
    · exact h'
  · exact h.1 k h0 hk e

theorem UpInv.step {d : Array Tk} {n j : Nat} (h : UpInv d n j) (hj0 : 0 < j) (hj : j < n) (hn : n ≤ d.size) (hlt : tle (G d j) (G d ((j - 1) / 2))) : UpInv (sw d ((j - 1) / 2) j) n ((j - 1) / 2) := by
  have hi : (j - 1) / 2 < j := by omega
  have g := G_sw d (i := (j - 1) / 2) (j := j) (by omega) (by omega)
  constructor
  · intro k h0 hk hne
    rw [g, g]
    by_cases e : k = j
    · subst e
      rw [if_pos rfl, if_neg (by omega), if_pos rfl]
      exact hlt
    · rw [if_neg (show ¬ k = (j - 1) / 2 from hne), if_neg e]
      by_cases e1 : (k - 1) / 2 = (j - 1) / 2
      · rw [if_pos e1]
        exact tle_trans hlt (e1 ▸ h.1 k h0 hk e)
      · rw [if_neg e1]
        by_cases e2 : (k - 1) / 2 = j
        · rw [if_pos e2]; exact h.2 k h0 hk e2 hj0
        · rw [if_neg e2]; exact h.1 k h0 hk e
  · intro k h0 hk hp hi0
    rw [g, g]
    have hpp := h.1 ((j - 1) / 2) hi0 (by omega) (by omega)
    rw [if_neg (show ¬ ((j - 1) / 2 - 1) / 2 = (j - 1) / 2 from by omega), if_neg (show ¬ ((j - 1) / 2 - 1) / 2 = j from by omega)]
    by_cases e : k = j
    · subst e; rw [if_neg (by omega), if_pos rfl]; exact hpp
    · rw [if_neg (show ¬ k = (j - 1) / 2 from by omega), if_neg e]
      exact tle_trans hpp (hp ▸ h.1 k h0 hk e)

/-- A heap but for what stands below i. -/
def DnInv (d : Array Tk) (n i : Nat) : Prop := (∀ k, 0 < k → k < n → (k - 1) / 2 ≠ i → tle (G d ((k - 1) / 2)) (G d k)) ∧ (∀ k, 0 < k → k < n → (k - 1) / 2 = i → 0 < i → tle (G d ((i - 1) / 2)) (G d k))

theorem DnInv.done {d : Array Tk} {n i : Nat} (h : DnInv d n i) (hc : ∀ k, 0 < k → k < n → (k - 1) / 2 = i → tle (G d i) (G d k)) : Heaped d n := by
  intro k h0 hk
  by_cases e : (k - 1) / 2 = i
  · rw [e]; exact hc k h0 hk e
  · exact h.1 k h0 hk e

theorem DnInv.step {d : Array Tk} {n i j : Nat} (h : DnInv d n i) (hn : n ≤ d.size) (hj0 : 0 < j) (hj : j < n) (hp : (j - 1) / 2 = i) (hmin : ∀ k, 0 < k → k < n → (k - 1) / 2 = i → tle (G d j) (G d k)) (hlt : tle (G d j) (G d i)) : DnInv (sw d i j) n j := by
  have g := G_sw d (i := i) (j := j) (by omega) (by omega)
  constructor
  · intro k h0 hk hne
    rw [g, g]
    by_cases e : k = j
    · subst e
      rw [if_pos hp, if_neg (by omega), if_pos rfl]
      exact hlt
    · by_cases e1 : (k - 1) / 2 = i
      · rw [if_pos e1, if_neg (by omega), if_neg e]; exact hmin k h0 hk e1
      · rw [if_neg e1, if_neg hne]
        by_cases e2 : k = i
        · subst e2
          rw [if_pos rfl]
          exact h.2 j hj0 hj hp h0
        · rw [if_neg e2, if_neg e]; exact h.1 k h0 hk e1
  · intro k h0 hk hpk _
    rw [g, g, hp, if_pos rfl, if_neg (by omega), if_neg (by omega)]
    have := h.1 k h0 hk (by omega)
    rwa [hpk] at this

end Go.Proofs.Ytjpkglgbcflbnaa
