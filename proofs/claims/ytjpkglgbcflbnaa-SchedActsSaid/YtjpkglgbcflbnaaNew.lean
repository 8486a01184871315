/- Walks: New, and the copy of a queue's tickets (slices.Clone). -/
import Derived.Test.YtjpkglgbcflbnaaDue
namespace Go.Proofs.Ytjpkglgbcflbnaa
open Go.RowKit

theorem cell_alloc {w : World} {a : Addr} {v : Value} (h : w.cell? a = some v) (o : Obj) : (w.alloc o).cell? a = some v :=
  (((Below.refl w.heap.size w).alloc (Nat.le_refl _) o).cell (World.block_lt_of_cell? w a h)).trans h

theorem relOk_slot {s : Int} : relOk s 0 0 ↔ 1 ≤ s ∧ s ≤ 1000000 := by unfold relOk; omega

theorem new_ok (w : World) (s : Int) (h : 1 ≤ s ∧ s ≤ 1000000) : Calls Try.prog 17 #[.int .i64 s] w fun e w' => ∃ b, e = .returned (.tuple #[.pointer (some ⟨b, 0, none⟩), .int .i64 0]) ∧ w.heap.size ≤ b ∧ Qu w' b none s [] ∧ Below w.heap.size w w' := by
  have H := hid h; clear h
  go_enter Try.func17, Try.ntmps17
  go_wp2_with fail
  refine (release_ok s 0 0 w (relOk_slot.2 H.out)).mono ?_; rintro e w1 ⟨rfl, hb1⟩
  have HB1 := hid hb1; clear hb1
  go_wp2_with fail
  go_ret2
  refine ⟨w1.heap.size, rfl, HB1.out.size, ⟨H.out, List.Pairwise.nil, by simp, #[], ⟨⟨.slice none 0 0, Blk.new _ _ _, World.ownsRow_nil _ _ _ _, rfl⟩, by simp, by simp⟩, fun k _ hk => by simp at hk, .refl _⟩, HB1.out.alloc HB1.out.size _⟩

theorem new_bad (w : World) (s : Int) (h : ¬ (1 ≤ s ∧ s ≤ 1000000)) : Calls Try.prog 17 #[.int .i64 s] w fun e w' => e = .returned (.tuple #[.pointer none, .int .i64 2]) ∧ Below w.heap.size w w' := by
  have H := hid h; clear h
  go_enter Try.func17, Try.ntmps17
  go_wp2_with fail
  refine (release_bad s 0 0 w (fun k => H.out (relOk_slot.1 k))).mono ?_; rintro e w1 ⟨rfl, hb1⟩
  have HB1 := hid hb1; clear hb1
  go_wp2_with fail
  go_ret2
  exact ⟨rfl, HB1.out⟩

set_option maxRecDepth 10000 in
set_option maxHeartbeats 1000000 in
theorem clone_some (w : World) (g n c : Nat) (xs : List Value) (hn : n ≤ 100000) (hl : xs.length = n * 2) (hx : ∀ j u, xs[j]? = some u → w.cell? ((⟨g, 0, none⟩ : Addr).add j) = some u) (h1 : ∀ u ∈ xs, u.oneCell' = true) :
    Calls Try.prog 31 #[.slice (some ⟨g, 0, none⟩) n c] w fun e w' => ∃ v, e = .returned v ∧ w'.ownsRow w.heap.size 60 2 v n xs ∧ Below w.heap.size w w' := by
  obtain ⟨i0, hi, hz0, hz1, hz2⟩ := info_parts Try.info60
  have qT : ∀ (w : World) (a : Option Addr) (n c n' c' : Nat), (binOp .eql 31 (.slice a n c) (.slice none n' c')).run Try.prog w = .ok (.bool a.isNone) w := fun w a n c n' c' => Lib.run_eql_slice_nil w _ _ a n c n' c' Try.underlying31
  have HX := hid hx; have H1 := hid h1; clear hx h1
  have HL := hid hl; clear hl
  go_enter Try.func31, Try.ntmps31
  go_wp2_with (at_builtin; refine wpList_append_own _ rfl _ _ 31 rfl w.heap.size 60 i0 (.agg #[.int .i64 0, .int .i64 0]) 2 16 Try.underlying31 hi hz0 hz1 hz2 rfl (by decide) _ 0 [] rfl (World.ownsRow_made w #[] 0 (Nat.le_refl _) (by decide) rfl) ⟨g, 0, none⟩ n c xs rfl HL.out (fun j u hj => cell_alloc (HX.out j u hj) _) H1.out (by unfold maxLen; omega) (by omega) (by simp) ?_; intro v' w2 hown2 hgrow2 _)
  have HO2 := hid hown2; have HG2 := hid hgrow2; clear hown2 hgrow2
  go_wp2_with fail
  go_ret
  refine ⟨v', rfl, by simpa using HO2.out, ?_⟩
  exact ((Below.refl _ _).alloc (Nat.le_refl _) _).grown HG2.out (by simp) (fun k hk => Nat.le_of_eq (Option.some.inj hk))

theorem clone_nil (w : World) : Calls Try.prog 31 #[.slice none 0 0] w fun e w' => e = .returned (.slice none 0 0) ∧ w = w' := by
  have qT : ∀ (w : World) (a : Option Addr) (n c n' c' : Nat), (binOp .eql 31 (.slice a n c) (.slice none n' c')).run Try.prog w = .ok (.bool a.isNone) w := fun w a n c n' c' => Lib.run_eql_slice_nil w _ _ a n c n' c' Try.underlying31
  go_enter Try.func31, Try.ntmps31
  go_wp2_with fail
  go_ret
  exact ⟨rfl, rfl⟩

theorem flat_one (l : List Tk) : ∀ u ∈ flat l, u.oneCell' = true := by
  intro u hu
  induction l with
  | nil => simp at hu
  | cons p l ih =>
    rw [flat_cons] at hu
    rcases List.mem_cons.1 hu with rfl | hu
    · rfl
    · rcases List.mem_cons.1 hu with rfl | hu
      · rfl
      · exact ih hu

theorem add_lit (g j : Nat) : (⟨g, 0, none⟩ : Addr).add j = ⟨g, j, none⟩ := by unfold Addr.add; split <;> simp_all

/-- slices.Clone of what a value owns. -/
theorem clone_any (w : World) (v : Value) (base n : Nat) (d : List Tk) (h : w.ownsRow base 60 2 v n (flat d)) (hn : n ≤ 100000) :
    Calls Try.prog 31 #[v] w fun e w' => ∃ v', e = .returned v' ∧ w'.ownsRow w.heap.size 60 2 v' n (flat d) ∧ Below w.heap.size w w' := by
  rcases h.2 with ⟨rfl, rfl⟩ | ⟨g, cap, cur, rfl, hb, hg, hnc, hcm, hcs, htake⟩
  · have hd : flat d = [] := List.eq_nil_of_length_eq_zero (by simpa using h.1)
    rw [hd]
    exact (clone_nil w).mono fun _ _ ⟨he, hw⟩ => ⟨_, he, World.ownsRow_nil _ _ _ _, hw ▸ Below.refl _ _⟩
  · exact clone_some w g n cap (flat d) hn h.1 (h.cells rfl) (flat_one d)

end Go.Proofs.Ytjpkglgbcflbnaa
