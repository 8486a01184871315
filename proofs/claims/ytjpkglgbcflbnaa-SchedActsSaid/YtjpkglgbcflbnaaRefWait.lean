/- Walks: the reference's Waiting. -/
import Derived.Test.YtjpkglgbcflbnaaRef
namespace Go.Proofs.Ytjpkglgbcflbnaa
open Go.RowKit

set_option maxRecDepth 10000 in
set_option maxHeartbeats 2000000 in
theorem rwait_any (w : World) (b : Nat) (r : Option Nat) (s : Int) (l : List Tk) (h : RQ w b r s l) :
    Calls Try.prog 26 #[.pointer (some ⟨b, 0, none⟩)] w fun e w' => ∃ v, e = .returned v ∧ IsInts w' v (l.map (·.2)) ∧ Below w.heap.size w w' := by
  obtain ⟨i0, hi, hz0, hz1, hz2⟩ := info_parts Try.info3
  have hsm := h.sm; have hlt := h.lt
  obtain ⟨c0, a, c, hc, hcm, c1, hcell⟩ := h.cells
  have HC := hid hcell; have C1 := hid c1; clear h hcell c1 c0 hc hcm
  go_enter Try.func26, Try.ntmps26
  go_wp2_with fail
  go_loopw [3, 4] (fun v u wr => ∃ m k : List Tk, Hid (l = m ++ k) ∧ u = .int .i64 m.length ∧ Hid (wr.ownsRow w.heap.size 3 1 v m.length (m.map fun p => .int .i64 p.2)) ∧ Hid (Below w.heap.size w wr))
    (fun _ u _ => l.length - (intOf u).toNat)
  case atStart => exact ⟨[], l, rfl, rfl, World.ownsRow_nil _ _ _ _, Below.refl _ _⟩
  case round =>
    obtain ⟨m, k, hl, rfl, hm, hk⟩ := hrel
    obtain ⟨a4, c4, rfl⟩ := owns_ex hm.out
    have hll : Hid (l.length = m.length + k.length) := by rw [Hid, hl.out, List.length_append]
    have hc1 := (hk.out.cell (p := ⟨b, 1, none⟩) hlt).trans C1.out
    cases k with
    | nil =>
      have hnot : ¬ (m.length < l.length) := by have := hll.out; simp at this; omega
      go_wp2_with fail
      go_ret
      have hlm : l = m := by have := hl.out; simpa using this
      refine ⟨_, rfl, ?_, hk.out⟩
      rw [hlm]
      refine IsInts.of_owns (base := w.heap.size) ?_ (by have := hlm ▸ hsm; simp; omega)
      rw [List.length_map, List.map_map]; exact hm.out
    | cons p k =>
      have hlt' : m.length < l.length := by have := hll.out; simp at this; omega
      have hget : l[m.length]? = some p := by rw [hl.out]; simp
      obtain ⟨g, rfl, hg, e0, e1⟩ := HC.out m.length p hget
      have hcell0 := (hk.out.cell (p := ⟨g, m.length * 2, none⟩) hg).trans e0
      have hml : m.length < 900 := by omega
      have hwr := hid hk.out.size
      clear e0 e1 hget
      have hone := hid (cell_one_new wr (.int .i64 p.2) 3)
      go_wp2_with (at_builtin; refine wpList_append_own _ rfl _ _ 38 rfl w.heap.size 3 i0 (.int .i64 0) 1 8 Try.underlying38 hi hz0 hz1 hz2 rfl (by decide) _ m.length _ rfl (hm.out.alloc _) ⟨wr.heap.size, 0, none⟩ 1 1 [.int .i64 p.2] rfl rfl hone.out (by simp [Value.oneCell']) (by unfold maxLen; omega) (by omega) (by have := hwr.out; simp; omega) ?_; intro v' w3 hown3 hgrow3 _)
      have HO3 := hid hown3; have HG3 := hid hgrow3
      clear hown3 hgrow3
      go_wp2_with fail
      go_roundw
      case rel =>
        have hrow : ∀ x, (Value.slice a4 m.length c4).ownBlock = some x → w.heap.size ≤ x := fun x hx => (hm.out.lt x hx).1
        have hk2 : Below w.heap.size wr w3 := by
          have h1 : Below w.heap.size wr (wr.alloc (.cells #[.int .i64 p.2] 3)) := (Below.refl _ _).alloc hwr.out _
          refine h1.trans ⟨HG3.out.os, HG3.out.tape, HG3.out.output, HG3.out.size, fun k hk => HG3.out.block k (by have := h1.size; have := hwr.out; omega) (fun e => ?_)⟩
          have := hrow k e.symm; omega
        exact ⟨m ++ [p], k, by rw [Hid, hl.out]; simp, by simp, by rw [Hid]; simpa using HO3.out, hk.out.trans hk2⟩
      case measure => simp [intOf]; omega
end Go.Proofs.Ytjpkglgbcflbnaa
