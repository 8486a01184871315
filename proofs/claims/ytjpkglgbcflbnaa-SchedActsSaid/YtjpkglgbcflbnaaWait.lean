/- Walks: Waiting. -/
import Derived.Test.YtjpkglgbcflbnaaSort
namespace Go.Proofs.Ytjpkglgbcflbnaa
open Go.RowKit Go.Sort Go.Shelf Go.Lib

theorem ins_none (p : Option Addr) (cap : Nat) (fv : Value) (w : World) : Calls Try.prog 42 #[.slice p 0 cap, .int .i64 0, .int .i64 0, fv] w fun e w' => e = .returned (.tuple #[]) ∧ w = w' := by
  go_enter Try.func42, Try.ntmps42
  go_wp2
  refine wp_loop_rounds 1 ?_
  rw [rounds_succ]
  go_wp2
  go_end0
  exact ⟨rfl, rfl⟩

theorem pdq_none (p : Option Addr) (cap : Nat) (lim : Int) (fv : Value) (w : World) : Calls Try.prog 38 #[.slice p 0 cap, .int .i64 0, .int .i64 0, .int .i64 lim, fv] w fun e w' => e = .returned (.tuple #[]) ∧ w = w' := by
  go_enter Try.func38, Try.ntmps38
  go_wp2
  refine wp_loop_rounds 1 ?_
  rw [rounds_succ]
  go_wp2_with (go_at_call 42; refine (ins_none _ _ _ _).mono ?_; rintro e w' ⟨rfl, rfl⟩)
  (try simp only [Exit.inBlock, Exit.then]); refine bodyPost_ret (results_none rfl _ _ _) rfl ?_
  exact ⟨rfl, rfl⟩

theorem sort_none (p : Option Addr) (cap : Nat) (fv : Value) (w : World) : Calls Try.prog 33 #[.slice p 0 cap, fv] w fun e w' => e = .returned (.tuple #[]) ∧ w = w' := by
  have hbl : Calls Try.prog 39 #[.int .u64 0] w fun e w' => e = .returned (.int .i64 (Lib.bitLen 0 : Nat)) ∧ w' = w := Any.bits_Len Try.lenW 0 w (by omega) (by omega)
  go_enter Try.func33, Try.ntmps33
  go_wp2_with (first | (go_at_call 39; refine hbl.mono ?_; rintro e w' ⟨rfl, rfl⟩) | (go_at_call 38; refine (pdq_none _ _ _ _ _).mono ?_; rintro e w' ⟨rfl, rfl⟩))
  go_end0
  exact ⟨rfl, rfl⟩

theorem sort_any (base : Nat) (v : Value) (d : Array Tk) (w : World) (h : w.ownsRow base 60 2 v d.size (flat d.toList)) (hs : d.size ≤ 1000) (l : List Tk) (hl : Sorted l) (hp : d.toList.Perm l) :
    Calls Try.prog 33 #[v, .func (.func 34) #[] #[]] w fun e w' => e = .returned (.tuple #[]) ∧ w'.ownsRow base 60 2 v d.size (flat l) ∧ Below base w w' := by
  by_cases h0 : d.size = 0
  · have hl0 : l = [] := by have := hp.length_eq; exact List.eq_nil_of_length_eq_zero (by simp at this; omega)
    have hd0 : d = #[] := Array.eq_empty_of_size_eq_zero h0
    subst hl0 hd0
    obtain ⟨a, c, rfl⟩ := owns_ex h
    exact (sort_none a c _ w).mono fun _ _ ⟨e, k⟩ => ⟨e, k ▸ h, k ▸ .refl _ _⟩
  · rcases h.2 with ⟨_, k⟩ | ⟨g, cap, cur, rfl, hb, hg, h1, h2, h3, h4⟩
    · exact absurd k h0
    · exact sort_some g cap base d w cur hb hg h1 h2 h3 h4 hs l hl hp

theorem tk_row {w : World} {base : Nat} {a : Option Addr} {c : Nat} {l : List Tk} (h : w.ownsRow base 60 2 (.slice a l.length c) l.length (flat l)) (i : Nat) (p : Tk) (hi : l[i]? = some p) :
    ∃ g, a = some ⟨g, 0, none⟩ ∧ g < w.heap.size ∧ w.cell? ⟨g, i * 2, none⟩ = some (.int .i64 p.1) ∧ w.cell? ⟨g, i * 2 + 1, none⟩ = some (.int .i64 p.2) := by
  have hlt : i < l.length := (List.getElem?_eq_some_iff.1 hi).1
  have hh := h
  rcases h.2 with ⟨e, h0⟩ | ⟨g, cap, cur, e, hb, hg, h1, h2, h3, h4⟩
  · omega
  · simp at e
    obtain ⟨rfl, rfl⟩ := e
    have hf := flat_at l i p hi
    exact ⟨g, rfl, (Array.getElem?_eq_some_iff.1 hg).1, by rw [hh.cellAt _ (by omega)]; exact hf.1, by rw [hh.cellAt _ (by omega)]; exact hf.2⟩

set_option maxRecDepth 10000 in
set_option maxHeartbeats 2000000 in
theorem wait_any (w : World) (b : Nat) (r : Option Nat) (s : Int) (l : List Tk) (h : Qu w b r s l) :
    Calls Try.prog 16 #[.pointer (some ⟨b, 0, none⟩)] w fun e w' => ∃ v, e = .returned v ∧ IsInts w' v (l.map (·.2)) ∧ Below w.heap.size w w' := by
  obtain ⟨i0, hi, hz0, hz1, hz2⟩ := info_parts Try.info3
  obtain ⟨d, hq, hh, hp⟩ := h.ex
  have hdl : d.size = l.length := by have := hp.length_eq; simpa using this
  obtain ⟨v, hb, ho, hr⟩ := hq.ex
  have hs := h.slot.1; have hsm := h.sm; have hso := hid h.sorted
  have c0 := hb.cell 0; have c1 := hb.cell 1; have hlt := hb.lt
  simp at c0 c1
  have HP := hid hp; have HO := hid ho; clear h hq hh hp hb ho hr
  go_enter Try.func16, Try.ntmps16
  go_wp2_with fail
  refine (none_valid w b s c0 hs).mono ?_; rintro e w1 ⟨rfl, rfl⟩
  go_wp2_with fail
  refine (clone_any w v 0 d.size d.toList HO.out (by omega)).mono ?_
  rintro e w1 ⟨v1, rfl, ho1, hb1⟩
  have HO1 := hid ho1; have HB1 := hid hb1; clear ho1 hb1
  go_wp2_with fail
  refine (sort_any w.heap.size v1 d w1 HO1.out (by omega) l hso.out HP.out).mono ?_
  rintro e w2 ⟨rfl, ho2, hb2⟩
  have hb2' := HB1.out.trans hb2
  rw [hdl] at ho2
  obtain ⟨a, c, rfl⟩ := owns_ex ho2
  have HO2 := hid ho2; have HB2 := hid hb2'; clear ho2 hb2 hb2' HB1 HO1 HP HO c0 c1
  go_wp2_with fail
  go_loopw [2, 17] (fun v u wr => ∃ m k : List Tk, Hid (l = m ++ k) ∧ u = .int .i64 m.length ∧ Hid (wr.ownsRow w2.heap.size 3 1 v m.length (m.map fun p => .int .i64 p.2)) ∧ Hid (Below w2.heap.size w2 wr))
    (fun _ u _ => l.length - (intOf u).toNat)
  case atStart => exact ⟨[], l, rfl, rfl, World.ownsRow_nil _ _ _ _, Below.refl _ _⟩
  case round =>
    obtain ⟨m, k, hl, rfl, hm, hk⟩ := hrel
    obtain ⟨a4, c4, rfl⟩ := owns_ex hm.out
    have hll : Hid (l.length = m.length + k.length) := by rw [Hid, hl.out, List.length_append]
    cases k with
    | nil =>
      have hnot : ¬ (m.length < l.length) := by have := hll.out; simp at this; omega
      go_wp2_with fail
      go_ret
      have hlm : l = m := by have := hl.out; simpa using this
      refine ⟨_, rfl, ?_, ?_⟩
      · rw [hlm]
        refine IsInts.of_owns (base := w2.heap.size) ?_ (by have := hlm ▸ hsm; simp; omega)
        rw [List.length_map, List.map_map]; exact hm.out
      · exact HB2.out.trans (hk.out.mono HB2.out.size)
    | cons p k =>
      have hlt' : m.length < l.length := by have := hll.out; simp at this; omega
      have hget : l[m.length]? = some p := by rw [hl.out]; simp
      obtain ⟨g, rfl, hg, e0, e1⟩ := tk_row HO2.out m.length p hget
      have hcell0 := (hk.out.cell (p := ⟨g, m.length * 2, none⟩) hg).trans e0
      have hcell1 := (hk.out.cell (p := ⟨g, m.length * 2 + 1, none⟩) hg).trans e1
      clear e0 e1 hget
      have hml : m.length < 900 := by omega
      have hwr := hid hk.out.size
      have hone := cell_one_new (wr.alloc (.cells #[.int .i64 p.1, .int .i64 p.2] 60)) (.int .i64 p.2) 3
      rw [show (wr.alloc (.cells #[.int .i64 p.1, .int .i64 p.2] 60)).heap.size = wr.heap.size + 1 by simp] at hone
      have HONE := hid hone; clear hone
      go_wp2_with (at_builtin; refine wpList_append_own _ rfl _ _ 38 rfl w2.heap.size 3 i0 (.int .i64 0) 1 8 Try.underlying38 hi hz0 hz1 hz2 rfl (by decide) _ m.length _ rfl ((hm.out.alloc _).alloc _) ⟨wr.heap.size + 1, 0, none⟩ 1 1 [.int .i64 p.2] rfl rfl HONE.out (by simp [Value.oneCell']) (by unfold maxLen; omega) (by omega) (by have := hwr.out; simp; omega) ?_; intro v' w3 hown3 hgrow3 _)
      have HO3 := hid hown3; have HG3 := hid hgrow3
      clear hown3 hgrow3
      go_wp2_with fail
      go_roundw
      case rel =>
        have hrow : ∀ x, (Value.slice a4 m.length c4).ownBlock = some x → w2.heap.size ≤ x := fun x hx => (hm.out.lt x hx).1
        have hk2 : Below w2.heap.size wr w3 := by
          have h1 : Below w2.heap.size wr ((wr.alloc (.cells #[.int .i64 p.1, .int .i64 p.2] 60)).alloc (.cells #[.int .i64 p.2] 3)) := ((Below.refl _ _).alloc hwr.out _).alloc (by have := hwr.out; simp; omega) _
          refine h1.trans ⟨HG3.out.os, HG3.out.tape, HG3.out.output, HG3.out.size, fun k hk => HG3.out.block k (by have := h1.size; have := hwr.out; omega) (fun e => ?_)⟩
          have := hrow k e.symm; omega
        exact ⟨m ++ [p], k, by rw [Hid, hl.out]; simp, by simp, by rw [Hid]; simpa using HO3.out, hk.out.trans hk2⟩
      case measure => simp [intOf]; omega

theorem waitSaid : WaitSaid := fun w b r s l h => wait_any w b r s l h
end Go.Proofs.Ytjpkglgbcflbnaa
