/- Walks: Copy of a queue. -/
import Derived.Test.YtjpkglgbcflbnaaNew
import Derived.Deep.RegionWith
namespace Go.Proofs.Ytjpkglgbcflbnaa
open Go.RowKit

set_option maxRecDepth 10000 in
set_option maxHeartbeats 1000000 in
theorem copy_any (w : World) (b : Nat) (r : Option Nat) (s : Int) (l : List Tk) (h : Qu w b r s l) :
    Calls Try.prog 14 #[.pointer (some ⟨b, 0, none⟩)] w fun e w' => ∃ b' r', e = .returned (.pointer (some ⟨b', 0, none⟩)) ∧ Qu w' b' r' s l ∧ w.heap.size ≤ b' ∧ (∀ x, r' = some x → w.heap.size ≤ x) ∧ Below w.heap.size w w' := by
  obtain ⟨d, hq, hh, hp⟩ := h.ex
  obtain ⟨v, hb, ho, hr⟩ := hq.ex
  have hs := h.slot.1; have hsm := hq.sm
  have c0 := hb.cell 0; have c1 := hb.cell 1; have hlt := hb.lt
  simp at c0 c1
  have H := hid h; have HO := hid ho; have HH := hid hh; have HP := hid hp; clear h hq hh hp hb ho hr
  go_enter Try.func14, Try.ntmps14
  go_wp2_with fail
  refine (none_valid w b s c0 hs).mono ?_; rintro e w1 ⟨rfl, rfl⟩
  go_wp2_with fail
  have hcl := clone_any w.drew v 0 d.size d.toList HO.out hsm
  have HC := hid hcl; clear hcl
  go_region_with (go_at_call 31; refine HC.out.mono ?_; rintro e w1 ⟨v', rfl, ho1, hb1⟩; obtain ⟨a', c', rfl⟩ := owns_ex ho1; have c0' := (hb1.cell (p := ⟨b, 0, none⟩) hlt).trans c0; have c1' := (hb1.cell (p := ⟨b, 1, none⟩) hlt).trans c1; have HO1 := hid ho1; have HB1 := hid hb1; clear ho1 hb1)
  all_goals
    go_wp2_with fail
    go_ret
    have hrow : ∀ x, (Value.slice a' d.size c').ownBlock = some x → w.heap.size ≤ x := fun x hx => (HO1.out.lt x hx).1
    have hlt1 : ∀ x, (Value.slice a' d.size c').ownBlock = some x → x < w1.heap.size := fun x hx => (HO1.out.lt x hx).2
    have hown0 : w1.ownsRow 0 60 2 (.slice a' d.size c') d.size (flat d.toList) := by
      refine ⟨HO1.out.1, ?_⟩
      rcases HO1.out.2 with k | ⟨g, cap, cur, k1, k2, k3⟩
      · exact .inl k
      · exact .inr ⟨g, cap, cur, k1, Nat.zero_le _, k3⟩
    refine ⟨w1.heap.size, (Value.slice a' d.size c').ownBlock, rfl, ⟨H.out.slot, H.out.sorted, H.out.sm, d, ⟨⟨.slice a' d.size c', Blk.new w1 _ 33, hown0.alloc _, rfl⟩, fun e => ?_, hsm⟩, HH.out, HP.out⟩, HB1.out.size, hrow, ?_⟩
    · have := hlt1 _ e; omega
    · exact (((Below.refl w.heap.size w).drew).trans HB1.out).alloc HB1.out.size _
end Go.Proofs.Ytjpkglgbcflbnaa
