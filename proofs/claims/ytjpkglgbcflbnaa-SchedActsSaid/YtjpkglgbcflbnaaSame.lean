/- Walks: the comparison of two lists, and the choice by a number. -/
import Derived.Test.YtjpkglgbcflbnaaDue
namespace Go.Proofs.Ytjpkglgbcflbnaa
open Go.RowKit

/-- A value that reads as a list of integers. -/
structure IsInts (w : World) (v : Value) (l : List Int) : Prop where
  sm : l.length ≤ 1000000
  ex : ∃ a c, v = .slice a l.length c ∧ ∀ i, i < l.length → ∃ g o, a = some ⟨g, o, none⟩ ∧ g < w.heap.size ∧ w.cell? ⟨g, o + i, none⟩ = some (.int .i64 (l[i]?.getD 0))

theorem IsInts.call {w w' : World} {v : Value} {l : List Int} (h : IsInts w v l) (hb : Below w.heap.size w w') : IsInts w' v l := by
  obtain ⟨a, c, rfl, hc⟩ := h.ex
  refine ⟨h.sm, a, c, rfl, fun i hi => ?_⟩
  obtain ⟨g, o, h1, h2, h3⟩ := hc i hi
  exact ⟨g, o, h1, Nat.lt_of_lt_of_le h2 hb.size, (hb.cell (p := ⟨g, o + i, none⟩) h2).trans h3⟩

theorem IsInts.of_owns {w : World} {base : Nat} {v : Value} {l : List Int} (h : w.ownsRow base 3 1 v l.length (l.map (.int .i64))) (hs : l.length ≤ 1000000) : IsInts w v l := by
  refine ⟨hs, ?_⟩
  rcases h.2 with ⟨rfl, h0⟩ | ⟨g, cap, cur, rfl, hb, hg, h1, h2, h3, h4⟩
  · exact ⟨none, 0, by rw [h0], fun i hi => by omega⟩
  · refine ⟨_, cap, rfl, fun i hi => ⟨g, 0, rfl, (Array.getElem?_eq_some_iff.1 hg).1, ?_⟩⟩
    rw [Nat.zero_add, Blk.cell (w := w) hg]
    have := congrArg (fun x => x[i]?) h4
    simp only [List.getElem?_take, Nat.mul_one, hi, if_true, Array.getElem?_toList, List.getElem?_map] at this
    rw [this]; simp [hi]

theorem IsInts.at {w : World} {a : Option Addr} {n c : Nat} {l : List Int} (h : IsInts w (.slice a n c) l) : n = l.length ∧ ∀ i, i < l.length → ∃ g o, a = some ⟨g, o, none⟩ ∧ g < w.heap.size ∧ w.cell? ⟨g, o + i, none⟩ = some (.int .i64 (l[i]?.getD 0)) := by
  obtain ⟨a', c', e, hc⟩ := h.ex
  simp at e
  obtain ⟨rfl, rfl, rfl⟩ := e
  exact ⟨rfl, hc⟩

theorem getD_eq_of {l m : List Int} (hn : l.length = m.length) (h : ∀ i, i < l.length → l[i]?.getD 0 = m[i]?.getD 0) : l = m := by
  apply List.ext_getElem hn
  intro i h1 h2
  have := h i h1
  simpa [h1, h2] using this

set_option maxRecDepth 10000 in
set_option maxHeartbeats 1000000 in
theorem same_any (w : World) (v u : Value) (l m : List Int) (hv : IsInts w v l) (hu : IsInts w u m) :
    Calls Try.prog 18 #[v, u] w fun e w' => e = .returned (.bool (l == m)) ∧ Below w.heap.size w w' := by
  obtain ⟨a, c, rfl, ha⟩ := hv.ex
  obtain ⟨b, k, rfl, hb⟩ := hu.ex
  have sl := hv.sm; have sm := hu.sm
  have HA := hid ha; have HB := hid hb
  clear ha hb hv hu
  by_cases hn : l.length = m.length
  · have heq : ((l.length : Int) == (m.length : Int)) = true := by simp; omega
    have HN := hid hn; clear hn
    go_enter Try.func18, Try.ntmps18
    go_wp2
    go_loopw [5, 6] (fun v i wr => ∃ (k : Nat) (t : Bool), v = .bool t ∧ i = .int .i64 k ∧ k ≤ l.length ∧ Hid ((t = true ∧ ∀ i, i < k → l[i]?.getD 0 = m[i]?.getD 0) ∨ (t = false ∧ l ≠ m)) ∧ Hid (Below w.heap.size w wr))
      (fun _ i _ => l.length - (intOf i).toNat)
    case atStart => exact ⟨0, true, rfl, rfl, Nat.zero_le _, .inl ⟨rfl, fun i hi => by omega⟩, Below.refl _ _⟩
    case round =>
      obtain ⟨k, t, rfl, rfl, hk, ht, hb⟩ := hrel
      by_cases hkn : k < l.length
      · cases t with
        | true =>
          obtain ⟨g1, o1, rfl, g1l, c1⟩ := HA.out k hkn
          obtain ⟨g2, o2, rfl, g2l, c2⟩ := HB.out k (by have := HN.out; omega)
          have d1 := (hb.out.cell (p := ⟨g1, o1 + k, none⟩) g1l).trans c1
          have d2 := (hb.out.cell (p := ⟨g2, o2 + k, none⟩) g2l).trans c2
          have hkm : k < m.length := by have := HN.out; omega
          clear c1 c2 heq
          go_wp2
          go_quiet (fail)
          go_wp2
          go_roundw
          case rel =>
            have hnext : (l[k] == m[k]) = true → ∀ i, i < k + 1 → l[i]?.getD 0 = m[i]?.getD 0 := by
              intro e i hi
              by_cases hik : i = k
              · subst hik; simp at e; simp [hkn, hkm, e]
              · have := ht.out.resolve_right (by simp)
                exact this.2 i (by omega)
            have hnot : (l[k] == m[k]) = false → l ≠ m := by
              intro e h; subst h; simp at e
            refine ⟨k + 1, _, rfl, by go_num, by omega, ?_, ?_⟩
            · cases e : (l[k] == m[k])
              · exact .inr ⟨rfl, hnot e⟩
              · exact .inl ⟨rfl, hnext e⟩
            · exact (hb.out : Below w.heap.size w wr).trans ⟨rfl, rfl, rfl, Nat.le_refl _, fun _ _ => rfl⟩
          case measure => simp [intOf]; omega
        | false =>
          have hne := ht.out.resolve_left (by simp)
          have HNE := hid hne.2; clear hne
          go_wp2
          go_ret
          exact ⟨by rw [show (l == m) = false from by rw [beq_eq_false_iff_ne]; exact HNE.out]; rfl, hb.out⟩
      · cases t with
        | true =>
          have h := hid (ht.out.resolve_right (by simp)).2
          go_wp2
          go_ret
          exact ⟨by rw [show (l == m) = true from by rw [beq_iff_eq]; exact getD_eq_of HN.out (fun i hi => h.out i (by omega))]; rfl, hb.out⟩
        | false =>
          have h := hid (ht.out.resolve_left (by simp)).2
          go_wp2
          go_ret
          exact ⟨by rw [show (l == m) = false from by rw [beq_eq_false_iff_ne]; exact h.out]; rfl, hb.out⟩
  · have hne : ((l.length : Int) == (m.length : Int)) = false := by simp; omega
    have hf : (l == m) = false := by
      rw [beq_eq_false_iff_ne]; intro e; exact hn (by rw [e])
    clear hn
    go_enter Try.func18, Try.ntmps18
    go_wp2
    refine wp_loop_rounds 1 ?_
    rw [rounds_succ]
    go_wp2
    go_ret
    exact ⟨by rw [hf]; rfl, Below.refl _ _⟩
end Go.Proofs.Ytjpkglgbcflbnaa
