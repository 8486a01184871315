/- Walks: the methods of the heap of waiting tickets. -/
import Derived.Test.YtjpkglgbcflbnaaOrder
import Derived.BigRegion
import Derived.Deep.RegionLaw
import Derived.Deep.AppendLies
namespace Go.Proofs.Ytjpkglgbcflbnaa
open Go.RowKit

set_option maxRecDepth 10000 in
set_option maxHeartbeats 400000 in
theorem less_any (k n c i j : Nat) (p q : Int × Int) (w : World) (hi : i < n) (hj : j < n) (_ : n ≤ 1000000)
    (i0 : w.cell? ⟨k, i * 2, none⟩ = some (.int .i64 p.1)) (i1 : w.cell? ⟨k, i * 2 + 1, none⟩ = some (.int .i64 p.2))
    (j0 : w.cell? ⟨k, j * 2, none⟩ = some (.int .i64 q.1)) (j1 : w.cell? ⟨k, j * 2 + 1, none⟩ = some (.int .i64 q.2)) :
    Calls Try.prog 77 #[.slice (some ⟨k, 0, none⟩) n c, .int .i64 i, .int .i64 j] w fun e w' => e = .returned (.bool (decide (ordI p q < 0))) ∧ Below w.heap.size w w' := by
  go_enter Try.func77, Try.ntmps77
  go_wp2
  refine region_tail 8 (by kernel_rfl) (by kernel_rfl) ?_
  simp only [List.take_succ_cons, List.take_zero, List.drop_succ_cons, List.drop_zero]
  iterate 8 still_step
  refine wpStill_nil ?_
  go_wp2_with fail
  refine (order_any p q _).mono ?_; rintro e w1 ⟨rfl, hb1⟩
  go_wp2_with fail
  go_ret
  exact ⟨rfl, ((Below.refl _ _).drew).trans hb1⟩

set_option maxRecDepth 10000 in
set_option maxHeartbeats 400000 in
theorem swap_ne (k n c i j : Nat) (p q : Int × Int) (w : World) (hi : i < n) (hj : j < n) (hij : i ≠ j) (fr : ∀ o, w.frozen? ⟨k, o, none⟩ = false)
    (i0 : w.cell? ⟨k, i * 2, none⟩ = some (.int .i64 p.1)) (i1 : w.cell? ⟨k, i * 2 + 1, none⟩ = some (.int .i64 p.2))
    (j0 : w.cell? ⟨k, j * 2, none⟩ = some (.int .i64 q.1)) (j1 : w.cell? ⟨k, j * 2 + 1, none⟩ = some (.int .i64 q.2)) :
    Calls Try.prog 78 #[.slice (some ⟨k, 0, none⟩) n c, .int .i64 i, .int .i64 j] w fun e w' => e = .returned (.tuple #[]) ∧
      w' = ((((w.setCell ⟨k, i * 2, none⟩ (.int .i64 q.1)).setCell ⟨k, i * 2 + 1, none⟩ (.int .i64 q.2)).setCell ⟨k, j * 2, none⟩ (.int .i64 p.1)).setCell ⟨k, j * 2 + 1, none⟩ (.int .i64 p.2)).drew := by
  go_enter Try.func78, Try.ntmps78
  go_wp2
  go_region
  go_end0
  exact ⟨rfl, rfl⟩

set_option maxRecDepth 10000 in
set_option maxHeartbeats 400000 in
theorem swap_eq (k n c i : Nat) (p : Int × Int) (w : World) (hi : i < n) (fr : ∀ o, w.frozen? ⟨k, o, none⟩ = false)
    (i0 : w.cell? ⟨k, i * 2, none⟩ = some (.int .i64 p.1)) (i1 : w.cell? ⟨k, i * 2 + 1, none⟩ = some (.int .i64 p.2)) :
    Calls Try.prog 78 #[.slice (some ⟨k, 0, none⟩) n c, .int .i64 i, .int .i64 i] w fun e w' => e = .returned (.tuple #[]) ∧
      w' = ((((w.setCell ⟨k, i * 2, none⟩ (.int .i64 p.1)).setCell ⟨k, i * 2 + 1, none⟩ (.int .i64 p.2)).setCell ⟨k, i * 2, none⟩ (.int .i64 p.1)).setCell ⟨k, i * 2 + 1, none⟩ (.int .i64 p.2)).drew := by
  go_enter Try.func78, Try.ntmps78
  go_wp2
  go_region
  go_end0
  exact ⟨rfl, rfl⟩

theorem popM_any (b g n c : Nat) (slot : Int) (p : Int × Int) (w : World) (hn : n < 1000000) (hq : Blk w b #[.int .i64 slot, .slice (some ⟨g, 0, none⟩) (n + 1) c] 33) (hc : n + 1 ≤ c) (_ : c ≤ 9223372036854775807)
    (i0 : w.cell? ⟨g, n * 2, none⟩ = some (.int .i64 p.1)) (i1 : w.cell? ⟨g, n * 2 + 1, none⟩ = some (.int .i64 p.2)) :
    Calls Try.prog 79 #[.pointer (some ⟨b, 1, none⟩)] w fun e w' => e = .returned (.iface 60 (.agg #[.int .i64 p.1, .int .i64 p.2])) ∧
      w' = (w.setCell ⟨b, 1, none⟩ (.slice (some ⟨g, 0, none⟩) n c)).alloc (.cells #[.int .i64 p.1, .int .i64 p.2] 60) := by
  have q1 := hq.cell 1
  have f1 := hq.free 1
  have hlt := hq.lt
  simp at q1
  go_enter Try.func79, Try.ntmps79
  go_wp2
  go_ret
  exact ⟨rfl, rfl⟩

theorem assert60 (a b : Int) (w : World) : (Instr.typeAssert (.iface 60 (.agg #[.int .i64 a, .int .i64 b])) 20 60 false).run Try.prog w = .ok (.agg #[.int .i64 a, .int .i64 b]) w := by kernel_rfl

theorem Try.info60 : (Try.prog.info? 60).map (fun i => (i.zero, i.size, i.bytes)) = some (some (.agg #[.int .i64 0, .int .i64 0]), 2, 16) := by kernel_rfl

set_option maxRecDepth 10000 in
set_option maxHeartbeats 400000 in
theorem pushM_any (b n : Nat) (v : Value) (xs : List Value) (slot : Int) (p : Int × Int) (w : World) (hn : n < 1000000) (hq : Blk w b #[.int .i64 slot, v] 33) (hown : w.ownsRow 0 60 2 v n xs) (hne : v.ownBlock ≠ some b) :
    Calls Try.prog 80 #[.pointer (some ⟨b, 1, none⟩), .iface 60 (.agg #[.int .i64 p.1, .int .i64 p.2])] w fun e w' => e = .returned (.tuple #[]) ∧
      ∃ v', Blk w' b #[.int .i64 slot, v'] 33 ∧ w'.ownsRow 0 60 2 v' (n + 1) (xs ++ [.int .i64 p.1, .int .i64 p.2]) ∧ v'.ownBlock ≠ some b ∧ Keep2 w w' b v.ownBlock ∧ (∀ x, v'.ownBlock = some x → v.ownBlock = some x ∨ w.heap.size ≤ x) := by
  obtain ⟨i0, hi, hz0, hz1, hz2⟩ := info_parts Try.info60
  have q1 := hq.cell 1
  have f1 := hq.free 1
  have hlt := hq.lt
  simp at q1
  have ta := assert60 p.1 p.2
  have HN := hid hne; clear hne
  have HO := hid hown; clear hown
  have HQ := hid hq; clear hq
  go_enter Try.func80, Try.ntmps80
  go_wp2
  go_region_law (refine step_append_lies _ rfl _ _ 31 rfl 0 60 i0 (.agg #[.int .i64 0, .int .i64 0]) 2 16 Try.underlying31 hi hz0 hz1 hz2 rfl (by decide) _ n xs rfl (HO.out.alloc _) ⟨w.heap.size, 0, none⟩ 1 1 [.int .i64 p.1, .int .i64 p.2] rfl rfl (World.news_of_block (Blk.new w #[.int .i64 p.1, .int .i64 p.2] 60)) (by simp [Value.oneCell']) (by omega) (by unfold maxLen; omega) (by omega) (Nat.zero_le _) _ rfl ?_; intro g cap w1 hown1 hgrow1 hat1 hlt1; have hb1 := hid ((HQ.out.alloc (.cells #[.int .i64 p.1, .int .i64 p.2] 60)).drew.grown hgrow1 HN.out); have q2 := hb1.out.cell 1; have f2 := hb1.out.free 1; simp at q2; have G1 := hid hgrow1; have O1 := hid hown1; have A1 := hid hat1; clear hgrow1 hown1 hat1)
  all_goals
    go_end0
    have hgb : (some g : Option Nat) ≠ some b := by
      intro e
      rcases A1.out with h | h
      · exact HN.out (h.trans e)
      · simp at e h; omega
    have hgv : Keep2 w (w1.setCell ⟨b, 1, none⟩ (.slice (some ⟨g, 0, none⟩) (n + 1) cap)) b v.ownBlock :=
      ((((Keep2.refl w b v.ownBlock).alloc (.cells #[.int .i64 p.1, .int .i64 p.2] 60)).drew).trans (grownBy_keep2 G1.out b) (fun x hx => .inl hx)).set (.inl rfl) _
    refine ⟨rfl, .slice (some ⟨g, 0, none⟩) (n + 1) cap, ?_, ?_, hgb, hgv, ?_⟩
    · have := hb1.out.set 1 (.slice (some ⟨g, 0, none⟩) (n + 1) cap)
      simpa using this
    · exact ((Keep2.refl w1 b none).set (.inl rfl) _).owns O1.out hgb (.inr (by simp [Value.ownBlock]))
    · intro x hx
      rcases A1.out with h | h
      · exact .inl (h.trans hx)
      · right; simp [Value.ownBlock] at hx; simp at h; omega
end Go.Proofs.Ytjpkglgbcflbnaa
