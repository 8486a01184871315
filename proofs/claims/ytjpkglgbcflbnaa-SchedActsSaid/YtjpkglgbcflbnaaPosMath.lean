/- Plain mathematics: where a new ticket goes in the reference's list. -/
import Derived.Test.YtjpkglgbcflbnaaQMath
namespace Go.Proofs.Ytjpkglgbcflbnaa

/-- How many stand before p. -/
def posL (p : Tk) : List Tk → Nat
  | [] => 0
  | q :: l => if tle p q then 0 else posL p l + 1

theorem posL_le (p : Tk) (l : List Tk) : posL p l ≤ l.length := by
  induction l with
  | nil => exact Nat.le_refl _
  | cons q l ih => unfold posL; split <;> simp <;> omega

theorem posL_ins (p : Tk) (l : List Tk) : l.take (posL p l) ++ p :: l.drop (posL p l) = ins p l := by
  induction l with
  | nil => rfl
  | cons q l ih =>
    unfold posL ins
    split
    · simp
    · simp [ih]

theorem posL_lt (p : Tk) (l : List Tk) (i : Nat) (q : Tk) (hq : l[i]? = some q) (hi : i < posL p l) : ¬ tle p q := by
  induction l generalizing i with
  | nil => simp at hq
  | cons x l ih =>
    unfold posL at hi
    split at hi
    · omega
    · rename_i h
      cases i with
      | zero => simp at hq; subst hq; exact h
      | succ i => exact ih i (by simpa using hq) (by omega)

theorem posL_ge (p : Tk) (l : List Tk) (h : Sorted l) (i : Nat) (q : Tk) (hq : l[i]? = some q) (hi : posL p l ≤ i) : tle p q := by
  induction l generalizing i with
  | nil => simp at hq
  | cons x l ih =>
    have hs := List.pairwise_cons.1 h
    unfold posL at hi
    split at hi
    · rename_i hpx
      cases i with
      | zero => simp at hq; subst hq; exact hpx
      | succ i => exact tle_trans hpx (hs.1 q (List.mem_of_getElem? (by simpa using hq)))
    · cases i with
      | zero => omega
      | succ i => exact ih hs.2 i (by simpa using hq) (by omega)

theorem pos_step_yes {p q : Tk} {l : List Tk} {i : Nat} (h : Sorted l) (hq : l[i]? = some q) (hlt : ¬ tle p q) : min (i + 1) (posL p l) = i + 1 := by
  have : i < posL p l := Nat.lt_of_not_le fun hle => hlt (posL_ge p l h i q hq hle)
  omega

theorem pos_step_no {p q : Tk} {l : List Tk} {i : Nat} (hq : l[i]? = some q) (hle : tle p q) : min (i + 1) (posL p l) = min i (posL p l) := by
  have : posL p l ≤ i := Nat.le_of_not_lt fun hlt => posL_lt p l i q hq hlt hle
  omega

theorem hasL_true {l : List Tk} {t : Int} {i : Nat} {q : Tk} (hq : l[i]? = some q) (h : q.2 = t) : hasL l t = true := by
  unfold hasL
  rw [List.any_eq_true]
  exact ⟨q, List.mem_of_getElem? hq, by simpa using h⟩

theorem hasL_false {l : List Tk} {t : Int} (h : ∀ (i : Nat) (q : Tk), l[i]? = some q → q.2 ≠ t) : hasL l t = false := by
  cases e : hasL l t with
  | false => rfl
  | true =>
    unfold hasL at e
    rw [List.any_eq_true] at e
    obtain ⟨q, hq, hqt⟩ := e
    obtain ⟨i, hi⟩ := List.getElem?_of_mem hq
    exact absurd (by simpa using hqt) (h i q hi)
end Go.Proofs.Ytjpkglgbcflbnaa
