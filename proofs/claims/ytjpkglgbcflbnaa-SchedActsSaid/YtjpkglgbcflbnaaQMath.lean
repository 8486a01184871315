/- Plain mathematics: sorted lists of waiting tickets. No program in sight. -/
import Derived.Test.YtjpkglgbcflbnaaHeapMath
namespace Go.Proofs.Ytjpkglgbcflbnaa

instance (p q : Tk) : Decidable (tle p q) := by unfold tle; exact inferInstance

abbrev Sorted (l : List Tk) : Prop := l.Pairwise tle

def ins (p : Tk) : List Tk → List Tk
  | [] => [p]
  | q :: l => if tle p q then p :: q :: l else q :: ins p l

theorem ins_perm (p : Tk) (l : List Tk) : (ins p l).Perm (p :: l) := by
  induction l with
  | nil => exact .refl _
  | cons q l ih =>
    unfold ins
    split
    · exact .refl _
    · exact (ih.cons q).trans (.swap p q l)

theorem ins_mem (p x : Tk) (l : List Tk) : x ∈ ins p l ↔ x = p ∨ x ∈ l := by
  rw [(ins_perm p l).mem_iff, List.mem_cons]

theorem ins_sorted (p : Tk) (l : List Tk) (h : Sorted l) : Sorted (ins p l) := by
  induction l with
  | nil => exact List.pairwise_singleton _ _
  | cons q l ih =>
    unfold ins
    have hq := List.pairwise_cons.1 h
    split
    · rename_i hpq
      refine List.pairwise_cons.2 ⟨fun x hx => ?_, h⟩
      rcases List.mem_cons.1 hx with rfl | hx
      · exact hpq
      · exact tle_trans hpq (hq.1 x hx)
    · rename_i hpq
      refine List.pairwise_cons.2 ⟨fun x hx => ?_, ih hq.2⟩
      rcases (ins_mem p x l).1 hx with rfl | hx
      · exact not_tle hpq
      · exact hq.1 x hx

theorem sorted_eq {l k : List Tk} (h : l.Perm k) (hl : Sorted l) (hk : Sorted k) : l = k :=
  List.Perm.eq_of_pairwise (fun _ _ _ _ a b => tle_antisymm a b) hl hk h

theorem ins_length (p : Tk) (l : List Tk) : (ins p l).length = l.length + 1 := by rw [(ins_perm p l).length_eq]; rfl

/-- The least stands first. -/
theorem root_eq {d : Array Tk} {p : Tk} {l : List Tk} (hh : Heaped d d.size) (hp : d.toList.Perm (p :: l)) (hs : Sorted (p :: l)) : 0 < d.size ∧ G d 0 = p := by
  have hsz : d.size = l.length + 1 := by have := hp.length_eq; simpa using this
  refine ⟨by omega, ?_⟩
  have h0 : d.toList[0]? = some (G d 0) := by simp [G, hsz]
  have hm : G d 0 ∈ p :: l := hp.mem_iff.1 (List.mem_of_getElem? h0)
  have hpm : p ∈ d.toList := hp.mem_iff.2 List.mem_cons_self
  obtain ⟨i, hi⟩ := List.getElem?_of_mem hpm
  have hlt : i < d.size := by have := (List.getElem?_eq_some_iff.1 hi).1; simpa using this
  have hgi : G d i = p := by
    have : d.toList[i]? = some (G d i) := by simp [G, hlt]
    rw [this] at hi; simpa using hi
  have h1 : tle (G d 0) p := hgi ▸ hh.root i hlt
  rcases List.mem_cons.1 hm with h | h
  · exact h
  · exact tle_antisymm h1 ((List.pairwise_cons.1 hs).1 _ h)

/-- What is due at a time, and what is not. -/
def dueL (now : Int) (l : List Tk) : List Tk := l.takeWhile fun p => decide (p.1 ≤ now)
def notDue (now : Int) (l : List Tk) : List Tk := l.dropWhile fun p => decide (p.1 ≤ now)

theorem notDue_sorted (now : Int) (l : List Tk) (h : Sorted l) : Sorted (notDue now l) := h.sublist (List.dropWhile_sublist _)

theorem dueL_cons_yes {now : Int} {p : Tk} {l : List Tk} (h : p.1 ≤ now) : dueL now (p :: l) = p :: dueL now l := by simp [dueL, h]
theorem dueL_cons_no {now : Int} {p : Tk} {l : List Tk} (h : ¬ p.1 ≤ now) : dueL now (p :: l) = [] := by simp [dueL, h]
theorem notDue_cons_yes {now : Int} {p : Tk} {l : List Tk} (h : p.1 ≤ now) : notDue now (p :: l) = notDue now l := by simp [notDue, h]
theorem notDue_cons_no {now : Int} {p : Tk} {l : List Tk} (h : ¬ p.1 ≤ now) : notDue now (p :: l) = p :: l := by simp [notDue, h]
theorem due_length (now : Int) (l : List Tk) : (dueL now l).length + (notDue now l).length = l.length := by
  rw [← List.length_append]; simp [dueL, notDue]

/-- A ticket waits. -/
def hasL (l : List Tk) (t : Int) : Bool := l.any fun p => p.2 == t

end Go.Proofs.Ytjpkglgbcflbnaa
