/- Walks: the heap's operations at a queue's waiting tickets. -/
import Derived.Test.YtjpkglgbcflbnaaHeap
namespace Go.Proofs.Ytjpkglgbcflbnaa
open Go.RowKit

/-- Queue b (with slot s) has its waiting tickets d in block g, with room for c. -/
structure HQ (w : World) (b g : Nat) (s : Int) (c : Nat) (d : Array Tk) : Prop where
  q : Blk w b #[.int .i64 s, .slice (some ⟨g, 0, none⟩) d.size c] 33
  ne : g ≠ b
  le : d.size ≤ c
  cap : c ≤ maxLen
  sm : d.size ≤ 1000000
  row : ∃ cur, Blk w g cur 60 ∧ cur.size = c * 2 ∧ ∀ i, i < d.size → cur[i * 2]? = some (.int .i64 (G d i).1) ∧ cur[i * 2 + 1]? = some (.int .i64 (G d i).2)

theorem HQ.c0 {w : World} {b g : Nat} {s : Int} {c : Nat} {d : Array Tk} (h : HQ w b g s c d) {i : Nat} (hi : i < d.size) : w.cell? ⟨g, i * 2, none⟩ = some (.int .i64 (G d i).1) := by
  obtain ⟨cur, h1, h2, h3⟩ := h.row
  rw [h1.cell]; exact (h3 i hi).1
theorem HQ.c1 {w : World} {b g : Nat} {s : Int} {c : Nat} {d : Array Tk} (h : HQ w b g s c d) {i : Nat} (hi : i < d.size) : w.cell? ⟨g, i * 2 + 1, none⟩ = some (.int .i64 (G d i).2) := by
  obtain ⟨cur, h1, h2, h3⟩ := h.row
  rw [h1.cell]; exact (h3 i hi).2
theorem HQ.free {w : World} {b g : Nat} {s : Int} {c : Nat} {d : Array Tk} (h : HQ w b g s c d) (o : Nat) : w.frozen? ⟨g, o, none⟩ = false := by
  obtain ⟨cur, h1, h2, h3⟩ := h.row
  exact h1.free o
theorem HQ.lt {w : World} {b g : Nat} {s : Int} {c : Nat} {d : Array Tk} (h : HQ w b g s c d) : g < w.heap.size := by
  obtain ⟨cur, h1, h2, h3⟩ := h.row
  exact h1.lt
theorem HQ.l {w : World} {b g : Nat} {s : Int} {c : Nat} {d : Array Tk} (h : HQ w b g s c d) : w.cell? ⟨b, 1, none⟩ = some (.slice (some ⟨g, 0, none⟩) d.size c) := by
  rw [h.q.cell]; rfl

theorem HQ.call {w w' : World} {b g : Nat} {s : Int} {c : Nat} {d : Array Tk} (h : HQ w b g s c d) (hb : Below w.heap.size w w') : HQ w' b g s c d := by
  obtain ⟨cur, h1, h2, h3⟩ := h.row
  exact ⟨h.q.call hb, h.ne, h.le, h.cap, h.sm, cur, h1.call hb, h2, h3⟩

theorem HQ.swapped {w : World} {b g : Nat} {s : Int} {c : Nat} {d : Array Tk} (h : HQ w b g s c d) {i j : Nat} (hi : i < d.size) (hj : j < d.size) :
    HQ ((((w.setCell ⟨g, i * 2, none⟩ (.int .i64 (G d j).1)).setCell ⟨g, i * 2 + 1, none⟩ (.int .i64 (G d j).2)).setCell ⟨g, j * 2, none⟩ (.int .i64 (G d i).1)).setCell ⟨g, j * 2 + 1, none⟩ (.int .i64 (G d i).2)).drew b g s c (sw d i j) := by
  obtain ⟨cur, h1, h2, h3⟩ := h.row
  have hle := h.le
  refine ⟨?_, h.ne, by simpa using h.le, h.cap, by simpa using h.sm, _, ((((h1.set _ _).set _ _).set _ _).set _ _).drew, by simpa using h2, ?_⟩
  · rw [size_sw]
    exact ((((h.q.other h.ne _).other h.ne _).other h.ne _).other h.ne _).drew
  · intro k hk
    rw [size_sw] at hk
    have g' := G_sw d hi hj k
    simp only [Array.getElem?_setIfInBounds, Array.size_setIfInBounds, h2]
    have hif : (if k = i then G d j else if k = j then G d i else G d k) = if k = j then G d i else if k = i then G d j else G d k := by
      by_cases e1 : k = i <;> by_cases e2 : k = j <;> simp_all
    rw [g', hif]
    have this := h3 k hk
    by_cases e2 : k = j
    · rw [if_neg (show ¬ j * 2 + 1 = k * 2 by omega), if_pos (show j * 2 = k * 2 by omega), if_pos (show j * 2 < c * 2 by omega), if_pos (show j * 2 + 1 = k * 2 + 1 by omega), if_pos (show j * 2 + 1 < c * 2 by omega), if_pos e2]
      exact ⟨rfl, rfl⟩
    · rw [if_neg (show ¬ j * 2 + 1 = k * 2 by omega), if_neg (show ¬ j * 2 = k * 2 by omega), if_neg (show ¬ j * 2 + 1 = k * 2 + 1 by omega), if_neg (show ¬ j * 2 = k * 2 + 1 by omega), if_neg e2]
      by_cases e1 : k = i
      · rw [if_neg (show ¬ i * 2 + 1 = k * 2 by omega), if_pos (show i * 2 = k * 2 by omega), if_pos (show i * 2 < c * 2 by omega), if_pos (show i * 2 + 1 = k * 2 + 1 by omega), if_pos (show i * 2 + 1 < c * 2 by omega), if_pos e1]
        exact ⟨rfl, rfl⟩
      · rw [if_neg (show ¬ i * 2 + 1 = k * 2 by omega), if_neg (show ¬ i * 2 = k * 2 by omega), if_neg (show ¬ i * 2 + 1 = k * 2 + 1 by omega), if_neg (show ¬ i * 2 = k * 2 + 1 by omega), if_neg e1]
        exact this

theorem meth_less0 (b : Nat) (w : World) : (method 224 63 (.pointer (some ⟨b, 1, none⟩)) "Less").run Try.prog w = match w.cell? ⟨b, 1, none⟩ with
    | some v => .ok (77, v) w
    | none => match w.farLoad Try.prog ⟨b, 1, none⟩ false with
      | .ok (v, _) => .ok (77, v) w
      | .error h => .halt h w := by kernel_rfl
theorem meth_less (b : Nat) (w : World) (v : Value) (hc : w.cell? ⟨b, 1, none⟩ = some v) : (method 224 63 (.pointer (some ⟨b, 1, none⟩)) "Less").run Try.prog w = .ok (77, v) w := by
  rw [meth_less0, hc]
theorem meth_len0 (b : Nat) (w : World) : (method 224 63 (.pointer (some ⟨b, 1, none⟩)) "Len").run Try.prog w = match w.cell? ⟨b, 1, none⟩ with
    | some v => .ok (76, v) w
    | none => match w.farLoad Try.prog ⟨b, 1, none⟩ false with
      | .ok (v, _) => .ok (76, v) w
      | .error h => .halt h w := by kernel_rfl
theorem meth_len (b : Nat) (w : World) (v : Value) (hc : w.cell? ⟨b, 1, none⟩ = some v) : (method 224 63 (.pointer (some ⟨b, 1, none⟩)) "Len").run Try.prog w = .ok (76, v) w := by
  rw [meth_len0, hc]
theorem meth_swap0 (b : Nat) (w : World) : (method 224 63 (.pointer (some ⟨b, 1, none⟩)) "Swap").run Try.prog w = match w.cell? ⟨b, 1, none⟩ with
    | some v => .ok (78, v) w
    | none => match w.farLoad Try.prog ⟨b, 1, none⟩ false with
      | .ok (v, _) => .ok (78, v) w
      | .error h => .halt h w := by kernel_rfl
theorem meth_swap (b : Nat) (w : World) (v : Value) (hc : w.cell? ⟨b, 1, none⟩ = some v) : (method 224 63 (.pointer (some ⟨b, 1, none⟩)) "Swap").run Try.prog w = .ok (78, v) w := by
  rw [meth_swap0, hc]
theorem meth_push (b : Nat) (w : World) : (method 224 63 (.pointer (some ⟨b, 1, none⟩)) "Push").run Try.prog w = .ok (80, .pointer (some ⟨b, 1, none⟩)) w := by kernel_rfl
theorem meth_pop (b : Nat) (w : World) : (method 224 63 (.pointer (some ⟨b, 1, none⟩)) "Pop").run Try.prog w = .ok (79, .pointer (some ⟨b, 1, none⟩)) w := by kernel_rfl

theorem lessQ {w : World} {b g : Nat} {s : Int} {c : Nat} {d : Array Tk} (h : HQ w b g s c d) (i j : Nat) (hi : i < d.size) (hj : j < d.size) :
    Calls Try.prog 77 #[.slice (some ⟨g, 0, none⟩) d.size c, .int .i64 i, .int .i64 j] w fun e w' => e = .returned (.bool (decide (ordI (G d i) (G d j) < 0))) ∧ Below w.heap.size w w' :=
  less_any g d.size c i j _ _ w hi hj h.sm (h.c0 hi) (h.c1 hi) (h.c0 hj) (h.c1 hj)

theorem swapQ {w : World} {b g : Nat} {s : Int} {c : Nat} {d : Array Tk} (h : HQ w b g s c d) (i j : Nat) (hi : i < d.size) (hj : j < d.size) :
    Calls Try.prog 78 #[.slice (some ⟨g, 0, none⟩) d.size c, .int .i64 i, .int .i64 j] w fun e w' => e = .returned (.tuple #[]) ∧ HQ w' b g s c (sw d i j) ∧ Keep2 w w' b (some g) := by
  have keep : ∀ v1 v2 v3 v4, Keep2 w ((((w.setCell ⟨g, i * 2, none⟩ v1).setCell ⟨g, i * 2 + 1, none⟩ v2).setCell ⟨g, j * 2, none⟩ v3).setCell ⟨g, j * 2 + 1, none⟩ v4).drew b (some g) := fun _ _ _ _ =>
    (((((Keep2.refl w b (some g)).set (.inr (.inl rfl)) _).set (.inr (.inl rfl)) _).set (.inr (.inl rfl)) _).set (.inr (.inl rfl)) _).drew
  by_cases e : i = j
  · subst e
    exact (swap_eq g d.size c i _ w hi h.free (h.c0 hi) (h.c1 hi)).mono fun _ _ ⟨he, hw⟩ => ⟨he, hw ▸ h.swapped hi hi, hw ▸ keep _ _ _ _⟩
  · exact (swap_ne g d.size c i j _ _ w hi hj e h.free (h.c0 hi) (h.c1 hi) (h.c0 hj) (h.c1 hj)).mono fun _ _ ⟨he, hw⟩ => ⟨he, hw ▸ h.swapped hi hj, hw ▸ keep _ _ _ _⟩

end Go.Proofs.Ytjpkglgbcflbnaa
