/- Plain mathematics for SchedOnce: numbered tickets with their release times; which are due between two times. No program in sight. -/
import Derived.Test.YtjpkglgbcflbnaaQMath
namespace Go.Proofs.Ytjpkglgbcflbnaa

/-- The tickets 0 to n-1 with their release times. -/
def tks (aT : Nat → Int) (n : Nat) : List Tk := (List.range n).map fun (i : Nat) => ((aT i, (i : Int)) : Tk)

theorem tks_succ (aT : Nat → Int) (n : Nat) : tks aT (n + 1) = tks aT n ++ [(aT n, (n : Int))] := by simp [tks, List.range_succ]

structure Tks (aT : Nat → Int) (n : Nat) (l : List Tk) : Prop where
  sorted : Sorted l
  perm : l.Perm (tks aT n)

theorem Tks.zero (aT : Nat → Int) : Tks aT 0 [] := ⟨List.Pairwise.nil, .refl _⟩

theorem Tks.ins {aT : Nat → Int} {n : Nat} {l : List Tk} (h : Tks aT n l) : Tks aT (n + 1) (ins (aT n, (n : Int)) l) :=
  ⟨ins_sorted _ _ h.sorted, by
    rw [tks_succ]
    exact (ins_perm _ _).trans ((h.perm.cons _).trans (List.perm_append_singleton _ _).symm)⟩

theorem Tks.mem {aT : Nat → Int} {n : Nat} {l : List Tk} (h : Tks aT n l) (p : Tk) : p ∈ l ↔ ∃ i, i < n ∧ p = (aT i, (i : Int)) := by
  rw [h.perm.mem_iff]
  simp [tks, eq_comm]

theorem Tks.length {aT : Nat → Int} {n : Nat} {l : List Tk} (h : Tks aT n l) : l.length = n := by
  rw [h.perm.length_eq]; simp [tks]

theorem Tks.nodup {aT : Nat → Int} {n : Nat} {l : List Tk} (h : Tks aT n l) : (l.map (·.2)).Nodup := by
  have hp := (h.perm.map (·.2))
  rw [hp.nodup_iff]
  simp only [tks, List.map_map]
  rw [show ((fun x : Tk => x.2) ∘ fun (i : Nat) => ((aT i, (i : Int)) : Tk)) = (fun (i : Nat) => (i : Int)) from rfl]
  rw [List.nodup_iff_pairwise_ne, List.pairwise_map]
  exact (List.nodup_iff_pairwise_ne.1 (List.nodup_range (n := n))).imp (fun {a b} h => by show (a : Int) ≠ (b : Int); omega)

theorem Tks.hasL {aT : Nat → Int} {n : Nat} {l : List Tk} (h : Tks aT n l) : hasL l (n : Int) = false := by
  unfold Go.Proofs.Ytjpkglgbcflbnaa.hasL
  rw [List.any_eq_false]
  intro p hp
  obtain ⟨i, hi, rfl⟩ := (h.mem p).1 hp
  simp; omega

theorem mem_notDue {l : List Tk} (h : Sorted l) (x : Int) (p : Tk) : p ∈ notDue x l ↔ p ∈ l ∧ x < p.1 := by
  induction l with
  | nil => simp [notDue]
  | cons q l ih =>
    have hq := List.pairwise_cons.1 h
    by_cases hx : q.1 ≤ x
    · rw [notDue_cons_yes hx, ih hq.2, List.mem_cons]
      constructor
      · rintro ⟨a, b⟩; exact ⟨.inr a, b⟩
      · rintro ⟨rfl | a, b⟩
        · omega
        · exact ⟨a, b⟩
    · rw [notDue_cons_no hx]
      constructor
      · intro hm
        refine ⟨hm, ?_⟩
        rcases List.mem_cons.1 hm with rfl | hm
        · omega
        · have := hq.1 p hm; unfold tle at this; omega
      · exact fun k => k.1

theorem mem_dueL {l : List Tk} (h : Sorted l) (x : Int) (p : Tk) : p ∈ dueL x l ↔ p ∈ l ∧ p.1 ≤ x := by
  induction l with
  | nil => simp [dueL]
  | cons q l ih =>
    have hq := List.pairwise_cons.1 h
    by_cases hx : q.1 ≤ x
    · rw [dueL_cons_yes hx, List.mem_cons, ih hq.2, List.mem_cons]
      constructor
      · rintro (rfl | ⟨a, b⟩)
        · exact ⟨.inl rfl, hx⟩
        · exact ⟨.inr a, b⟩
      · rintro ⟨rfl | a, b⟩
        · exact .inl rfl
        · exact .inr ⟨a, b⟩
    · rw [dueL_cons_no hx]
      constructor
      · intro k; cases k
      · rintro ⟨hm, b⟩
        exfalso
        rcases List.mem_cons.1 hm with rfl | hm
        · omega
        · have := hq.1 p hm; unfold tle at this; omega

theorem notDue_notDue {l : List Tk} {x y : Int} (hxy : x ≤ y) : notDue y (notDue x l) = notDue y l := by
  induction l with
  | nil => rfl
  | cons q l ih =>
    by_cases hx : q.1 ≤ x
    · rw [notDue_cons_yes hx, ih, notDue_cons_yes (by omega)]
    · rw [notDue_cons_no hx]

theorem dueL_sub (x : Int) (l : List Tk) : (dueL x l).Sublist l := List.takeWhile_sublist _
theorem notDue_sub (x : Int) (l : List Tk) : (notDue x l).Sublist l := List.dropWhile_sublist _

/-- What is due between two times. -/
structure DueP (aT : Nat → Int) (n : Nat) (lv nw : Int) (p : List Tk) : Prop where
  mem : ∀ k, k < p.length → ∃ i : Nat, i < n ∧ p[k]? = some (aT i, (i : Int)) ∧ lv < aT i ∧ aT i ≤ nw
  all : ∀ i, i < n → lv < aT i → aT i ≤ nw → (i : Int) ∈ p.map (·.2)
  nodup : (p.map (·.2)).Nodup
  lt : ∀ k i j : Nat, k + 1 < p.length → p[k]? = some (aT i, (i : Int)) → p[k + 1]? = some (aT j, (j : Int)) → aT i < aT j ∨ (aT i = aT j ∧ i < j)
  len : p.length ≤ n

theorem Tks.due {aT : Nat → Int} {n : Nat} {l : List Tk} (h : Tks aT n l) (lv nw : Int) : DueP aT n lv nw (dueL nw (notDue lv l)) := by
  have hs1 := notDue_sorted lv l h.sorted
  have hsub : (dueL nw (notDue lv l)).Sublist l := (dueL_sub _ _).trans (notDue_sub _ _)
  have hnd : ((dueL nw (notDue lv l)).map (·.2)).Nodup := h.nodup.sublist (hsub.map _)
  have hso : Sorted (dueL nw (notDue lv l)) := h.sorted.sublist hsub
  refine ⟨fun k hk => ?_, fun i hi h1 h2 => ?_, hnd, fun k i j hk hi hj => ?_, by rw [← h.length]; exact hsub.length_le⟩
  · have hm : (dueL nw (notDue lv l))[k] ∈ dueL nw (notDue lv l) := List.getElem_mem _
    have h1 := (mem_dueL hs1 nw _).1 hm
    have h2 := (mem_notDue h.sorted lv _).1 h1.1
    obtain ⟨i, hi, e⟩ := (h.mem _).1 h2.1
    refine ⟨i, hi, by rw [List.getElem?_eq_getElem hk, e], ?_, ?_⟩
    · have := h2.2; rw [e] at this; exact this
    · have := h1.2; rw [e] at this; exact this
  · refine List.mem_map.2 ⟨(aT i, (i : Int)), ?_, rfl⟩
    rw [mem_dueL hs1, mem_notDue h.sorted, h.mem]
    exact ⟨⟨⟨i, hi, rfl⟩, h1⟩, h2⟩
  · have hle : tle (aT i, (i : Int)) (aT j, (j : Int)) := by
      have := List.pairwise_iff_getElem.1 hso k (k + 1) (by omega) hk (by omega)
      rw [List.getElem?_eq_getElem (by omega)] at hi
      rw [List.getElem?_eq_getElem hk] at hj
      simp at hi hj
      rw [hi, hj] at this; exact this
    have hne : (i : Int) ≠ (j : Int) := by
      have := List.pairwise_iff_getElem.1 (List.nodup_iff_pairwise_ne.1 hnd) k (k + 1) (by simp; omega) (by simpa using hk) (by omega)
      rw [List.getElem?_eq_getElem (by omega)] at hi
      rw [List.getElem?_eq_getElem hk] at hj
      simp at hi hj
      simpa [hi, hj] using this
    unfold tle at hle
    simp at hle
    omega


theorem not_in_take {P : List Tk} (hn : (P.map (·.2)).Nodup) {m : Nat} {p : Tk} (h : P[m]? = some p) : ((P.take m).any fun q => q.2 == p.2) = false := by
  rw [List.any_eq_false]
  intro q hq
  obtain ⟨k, hk⟩ := List.getElem?_of_mem hq
  rw [List.getElem?_take] at hk
  split at hk
  · rename_i hkm
    have hkl := (List.getElem?_eq_some_iff.1 hk).1
    have hml := (List.getElem?_eq_some_iff.1 h).1
    have := List.pairwise_iff_getElem.1 (List.nodup_iff_pairwise_ne.1 hn) k m (by simpa using hkl) (by simpa using hml) hkm
    rw [List.getElem?_eq_getElem hkl] at hk
    rw [List.getElem?_eq_getElem hml] at h
    simp at hk h
    simp [hk, h] at this
    simpa using this
  · cases hk

theorem any_take_succ {P : List Tk} {m : Nat} {p : Tk} (h : P[m]? = some p) (t : Int) : ((P.take (m + 1)).any fun q => q.2 == t) = ((p.2 == t) || (P.take m).any fun q => q.2 == t) := by
  rw [List.take_add_one, h, List.any_append]
  simp [Bool.or_comm]

theorem DueP.done {aT : Nat → Int} {n : Nat} {lv nw : Int} {p : List Tk} (h : DueP aT n lv nw p) (hlv : lv ≤ nw) (t : Nat) (ht : t < n) : (decide (aT t ≤ lv) || p.any fun q => q.2 == (t : Int)) = decide (aT t ≤ nw) := by
  by_cases h1 : aT t ≤ lv
  · simp [h1]; omega
  · by_cases h2 : aT t ≤ nw
    · have := h.all t ht (by omega) h2
      rw [List.mem_map] at this
      obtain ⟨q, hq, e⟩ := this
      have : (p.any fun q => q.2 == (t : Int)) = true := List.any_eq_true.2 ⟨q, hq, by simpa using e⟩
      simp [h2, this]
    · have : (p.any fun q => q.2 == (t : Int)) = false := by
        rw [List.any_eq_false]
        intro q hq
        obtain ⟨k, hk⟩ := List.getElem?_of_mem hq
        obtain ⟨i, hi, e, a, b⟩ := h.mem k (List.getElem?_eq_some_iff.1 hk).1
        rw [hk] at e
        simp at e; subst e
        simp
        intro e
        have : i = t := by omega
        subst this; omega
      simp [h1, h2, this]

end Go.Proofs.Ytjpkglgbcflbnaa
