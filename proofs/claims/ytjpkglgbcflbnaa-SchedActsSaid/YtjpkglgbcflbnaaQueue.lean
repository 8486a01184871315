/- Walks: the methods of a valid queue. -/
import Derived.Test.YtjpkglgbcflbnaaIdx
import Derived.Test.YtjpkglgbcflbnaaQMath
namespace Go.Proofs.Ytjpkglgbcflbnaa
open Go.RowKit

/-- Queue b (its tickets in row r) has slot s and the waiting tickets l, which are sorted. -/
structure Qu (w : World) (b : Nat) (r : Option Nat) (s : Int) (l : List Tk) : Prop where
  slot : 1 ≤ s ∧ s ≤ 1000000
  sorted : Sorted l
  sm : l.length ≤ 900
  ex : ∃ d, QS w b r s d ∧ Heaped d d.size ∧ d.toList.Perm l

theorem QS.call {w w' : World} {b : Nat} {r : Option Nat} {s : Int} {d : Array Tk} (h : QS w b r s d) (hb : Below w.heap.size w w') : QS w' b r s d := by
  obtain ⟨v, h1, h2, h3⟩ := h.ex
  exact ⟨⟨v, h1.call hb, owns_call h2 hb, h3⟩, h.ne, h.sm⟩

theorem Qu.call {w w' : World} {b : Nat} {r : Option Nat} {s : Int} {l : List Tk} (h : Qu w b r s l) (hb : Below w.heap.size w w') : Qu w' b r s l := by
  obtain ⟨d, h1, h2, h3⟩ := h.ex
  exact ⟨h.slot, h.sorted, h.sm, d, h1.call hb, h2, h3⟩

theorem Qu.lt {w : World} {b : Nat} {r : Option Nat} {s : Int} {l : List Tk} (h : Qu w b r s l) : b < w.heap.size := by
  obtain ⟨d, h1, _⟩ := h.ex
  obtain ⟨v, h1, _⟩ := h1.ex
  exact h1.lt

theorem Qu.rlt {w : World} {b : Nat} {r : Option Nat} {s : Int} {l : List Tk} (h : Qu w b r s l) : ∀ x, r = some x → x < w.heap.size := by
  obtain ⟨d, h1, _⟩ := h.ex
  obtain ⟨v, _, h2, rfl⟩ := h1.ex
  exact owns_lt h2

theorem none_valid (w : World) (b : Nat) (s : Int) (h : w.cell? ⟨b, 0, none⟩ = some (.int .i64 s)) (hs : 1 ≤ s) : Calls Try.prog 27 #[.pointer (some ⟨b, 0, none⟩)] w fun e w' => e = .returned (.bool false) ∧ w = w' := by
  have hs' : (s == 0) = false := by simp; omega
  go_enter Try.func27, Try.ntmps27
  go_wp2
  go_ret
  exact ⟨rfl, rfl⟩

/-- What a queue's cells hold. -/
theorem Qu.cells {w : World} {b : Nat} {r : Option Nat} {s : Int} {l : List Tk} (h : Qu w b r s l) : w.cell? ⟨b, 0, none⟩ = some (.int .i64 s) ∧ ∃ a c, w.cell? ⟨b, 1, none⟩ = some (.slice a l.length c) ∧ ∀ p k, l = p :: k → ∃ g, a = some ⟨g, 0, none⟩ ∧ w.cell? ⟨g, 0, none⟩ = some (.int .i64 p.1) := by
  obtain ⟨d, h1, h2, h3⟩ := h.ex
  have hsz : d.size = l.length := by have := h3.length_eq; simpa using this
  obtain ⟨v, hb, ho, hr⟩ := h1.ex
  refine ⟨by rw [hb.cell]; rfl, ?_⟩
  by_cases h0 : 0 < d.size
  · obtain ⟨g, c, rfl, hq⟩ := h1.hq h0
    refine ⟨_, c, by rw [← hsz]; exact hq.l, fun p k e => ⟨g, rfl, ?_⟩⟩
    subst e
    have := hq.c0 h0
    rw [(root_eq h2 h3 h.sorted).2] at this
    simpa using this
  · have hl : l = [] := List.eq_nil_of_length_eq_zero (by omega)
    subst hl
    simp at hsz
    rcases ho.2 with ⟨rfl, _⟩ | ⟨g, cap, cur, rfl, _⟩
    · exact ⟨none, 0, by rw [hb.cell]; rfl, fun p k e => by cases e⟩
    · exact ⟨some ⟨g, 0, none⟩, cap, by rw [hb.cell]; simp [hsz], fun p k e => by cases e⟩

theorem next_any (w : World) (b : Nat) (r : Option Nat) (s : Int) (l : List Tk) (h : Qu w b r s l) : Calls Try.prog 13 #[.pointer (some ⟨b, 0, none⟩)] w fun e w' =>
    e = .returned (.tuple #[.int .i64 (l.head?.map (·.1) |>.getD 0), .bool (!l.isEmpty)]) ∧ w = w' := by
  obtain ⟨c0, a, c, c1, hc⟩ := h.cells
  have hs := h.slot.1; have hsm := h.sm
  cases l with
  | nil =>
    have H := hid h; clear h hc
    go_enter Try.func13, Try.ntmps13
    go_wp2_with fail
    refine (none_valid w b s c0 hs).mono ?_; rintro e w1 ⟨rfl, rfl⟩
    go_wp2
    go_ret2
    exact ⟨rfl, rfl⟩
  | cons p k =>
    obtain ⟨g, rfl, cg⟩ := hc p k rfl
    have H := hid h; clear h hc
    go_enter Try.func13, Try.ntmps13
    go_wp2_with fail
    refine (none_valid w b s c0 hs).mono ?_; rintro e w1 ⟨rfl, rfl⟩
    go_wp2
    go_ret2
    exact ⟨rfl, rfl⟩

set_option maxRecDepth 10000 in
theorem add_range (w : World) (b : Nat) (r : Option Nat) (s : Int) (l : List Tk) (h : Qu w b r s l) (t n k : Int) (hbad : t < 0 ∨ ¬ relOk s n k) : Calls Try.prog 12 #[.pointer (some ⟨b, 0, none⟩), .int .i64 t, .int .i64 n, .int .i64 k] w fun e w' =>
    e = .returned (.tuple #[.int .i64 0, .int .i64 2]) ∧ Below w.heap.size w w' := by
  obtain ⟨c0, a, c, c1, hc⟩ := h.cells
  have hs := h.slot.1; have hsm := h.sm; have hlt := h.lt
  clear h hc
  have hB := hid ((Below.refl w.heap.size w).alloc (Nat.le_refl _) (.cells #[.int .i64 t] 3))
  rcases rel_cases s n k with hr | hr
  · have ht : t < 0 := hbad.resolve_right (fun h => h hr)
    have HR := hid hr; clear hr hbad
    go_enter Try.func12, Try.ntmps12
    go_wp2_with fail
    refine (none_valid (w.alloc (.cells #[.int .i64 t] 3)) b s (by rw [World.cell?_alloc_past _ _ _ hlt]; exact c0) hs).mono ?_; rintro e w1 ⟨rfl, rfl⟩
    go_wp2_with fail
    refine (release_ok _ _ _ _ HR.out).mono ?_; rintro e w1 ⟨rfl, hb1⟩
    obtain ⟨hc1, hf1⟩ := bcell hb1
    have HB1 := hid (hB.out.trans (hb1.mono hB.out.size)); clear hb1
    go_wp2_with fail
    go_ret2
    exact ⟨rfl, HB1.out⟩
  · have HR := hid hr; clear hr hbad
    go_enter Try.func12, Try.ntmps12
    go_wp2_with fail
    refine (none_valid (w.alloc (.cells #[.int .i64 t] 3)) b s (by rw [World.cell?_alloc_past _ _ _ hlt]; exact c0) hs).mono ?_; rintro e w1 ⟨rfl, rfl⟩
    go_wp2_with fail
    refine (release_bad _ _ _ _ HR.out).mono ?_; rintro e w1 ⟨rfl, hb1⟩
    obtain ⟨hc1, hf1⟩ := bcell hb1
    have HB1 := hid (hB.out.trans (hb1.mono hB.out.size)); clear hb1
    go_wp2_with fail
    all_goals (go_ret2; exact ⟨rfl, HB1.out⟩)

theorem any_perm {l k : List Tk} (h : l.Perm k) (t : Int) : (l.any fun p => p.2 == t) = k.any fun p => p.2 == t := by
  rw [Bool.eq_iff_iff, List.any_eq_true, List.any_eq_true]
  constructor
  · rintro ⟨p, hp, e⟩; exact ⟨p, h.mem_iff.1 hp, e⟩
  · rintro ⟨p, hp, e⟩; exact ⟨p, h.mem_iff.2 hp, e⟩

set_option maxRecDepth 10000 in
set_option maxHeartbeats 1000000 in
theorem add_dup (w : World) (b : Nat) (r : Option Nat) (s : Int) (l : List Tk) (h : Qu w b r s l) (t n k : Int) (ht : 0 ≤ t) (hr : relOk s n k) (hd : hasL l t = true) : Calls Try.prog 12 #[.pointer (some ⟨b, 0, none⟩), .int .i64 t, .int .i64 n, .int .i64 k] w fun e w' =>
    e = .returned (.tuple #[.int .i64 0, .int .i64 8]) ∧ Below w.heap.size w w' := by
  obtain ⟨d, hq, hh, hp⟩ := h.ex
  have hdt : hasT d t = true := by unfold hasT; rw [any_perm hp]; exact hd
  obtain ⟨c0, a, c, c1, hc⟩ := h.cells
  have hs := h.slot.1; have hlt := h.lt
  have HQ0 := hid hq; have HR := hid hr; have HD := hid hdt
  clear h hc hh hp hq hr hd hdt
  have hB := hid ((Below.refl w.heap.size w).alloc (Nat.le_refl _) (.cells #[.int .i64 t] 3))
  have hX := hid (Blk.new w #[.int .i64 t] 3)
  have HQ1 := hid (HQ0.out.call hB.out)
  go_enter Try.func12, Try.ntmps12
  go_wp2_with fail
  refine (none_valid (w.alloc (.cells #[.int .i64 t] 3)) b s (by rw [World.cell?_alloc_past _ _ _ hlt]; exact c0) hs).mono ?_; rintro e w1 ⟨rfl, rfl⟩
  go_wp2_with fail
  refine (release_ok _ _ _ _ HR.out).mono ?_; rintro e w1 ⟨rfl, hb1⟩
  obtain ⟨hc1, hf1⟩ := bcell hb1
  have HB1 := hid (hB.out.trans (hb1.mono hB.out.size)); have HQ2 := hid (HQ1.out.call hb1); have HX1 := hid (hX.out.call hb1)
  clear hb1 HQ1 hX
  go_wp2_with fail
  refine (contains_any b r s d t w.heap.size w1 _ HQ2.out (by rw [hc1 b 1 (by simp; omega), World.cell?_alloc_past _ _ _ hlt]; exact c1) (by rw [HX1.out.cell]; rfl) HX1.out.lt).mono ?_
  rintro e w2 ⟨rfl, hb2⟩
  rw [HD.out]
  have HB2 := hid (HB1.out.trans (hb2.mono HB1.out.size)); clear hb2
  go_wp2_with fail
  go_ret2
  exact ⟨rfl, HB2.out⟩

set_option maxRecDepth 10000 in
set_option maxHeartbeats 1000000 in
theorem add_new (w : World) (b : Nat) (r : Option Nat) (s : Int) (l : List Tk) (h : Qu w b r s l) (hl : l.length < 900) (t n k : Int) (ht : 0 ≤ t) (hr : relOk s n k) (hd : hasL l t = false) : Calls Try.prog 12 #[.pointer (some ⟨b, 0, none⟩), .int .i64 t, .int .i64 n, .int .i64 k] w fun e w' =>
    e = .returned (.tuple #[.int .i64 (relT s n k), .int .i64 0]) ∧ ∃ r', Qu w' b r' s (ins (relT s n k, t) l) ∧ Keep2 w w' b r ∧ (∀ x, r' = some x → r = some x ∨ w.heap.size ≤ x) := by
  obtain ⟨d, hq, hh, hp⟩ := h.ex
  have hdt : hasT d t = false := by unfold hasT; rw [any_perm hp]; exact hd
  obtain ⟨c0, a, c, c1, hc⟩ := h.cells
  have hs := h.slot.1; have hlt := h.lt
  have hsz : d.size < 900 := by have := hp.length_eq; simp at this; omega
  have HQ0 := hid hq; have HR := hid hr; have HD := hid hdt; have HH := hid hh; have HP := hid hp; have H := hid h; have HRl := hid h.rlt
  clear h hc hh hp hq hr hd hdt
  have hB := hid ((Below.refl w.heap.size w).alloc (Nat.le_refl _) (.cells #[.int .i64 t] 3))
  have hX := hid (Blk.new w #[.int .i64 t] 3)
  have HQ1 := hid (HQ0.out.call hB.out)
  go_enter Try.func12, Try.ntmps12
  go_wp2_with fail
  refine (none_valid (w.alloc (.cells #[.int .i64 t] 3)) b s (by rw [World.cell?_alloc_past _ _ _ hlt]; exact c0) hs).mono ?_; rintro e w1 ⟨rfl, rfl⟩
  go_wp2_with fail
  refine (release_ok _ _ _ _ HR.out).mono ?_; rintro e w1 ⟨rfl, hb1⟩
  obtain ⟨hc1, hf1⟩ := bcell hb1
  have HB1 := hid (hB.out.trans (hb1.mono hB.out.size)); have HQ2 := hid (HQ1.out.call hb1); have HX1 := hid (hX.out.call hb1)
  clear hb1 HQ1 hX
  go_wp2_with fail
  refine (contains_any b r s d t w.heap.size w1 _ HQ2.out (by rw [hc1 b 1 (by simp; omega), World.cell?_alloc_past _ _ _ hlt]; exact c1) (by rw [HX1.out.cell]; rfl) HX1.out.lt).mono ?_
  rintro e w2 ⟨rfl, hb2⟩
  rw [HD.out]
  have HB2 := hid (HB1.out.trans (hb2.mono HB1.out.size)); have HQ3 := hid (HQ2.out.call hb2)
  have HX2 := hid (HX1.out.call hb2)
  have cx := HX2.out.cell 0
  simp at cx
  clear hb2 HX1 HQ2 HB1 hc1 hf1
  go_wp2_with fail
  refine region_tail 8 (by kernel_rfl) (by kernel_rfl) ?_
  simp only [List.take_succ_cons, List.take_zero, List.drop_succ_cons, List.drop_zero]
  iterate 8 still_step
  refine wpStill_nil ?_
  go_wp2_with fail
  have HQ4 := hid (HQ3.out.call (Below.drew (Below.refl _ _)))
  refine (hpush_any b r s d (relT s n k, t) w2.drew HQ4.out (by omega) HH.out).mono ?_
  rintro e w3 ⟨rfl, r', d', hq3, hp3, hh3, hk3, hr3⟩
  have HQ5 := hid hq3; have HP5 := hid hp3; have HH5 := hid hh3; have HK5 := hid hk3; have HR5 := hid hr3
  clear hq3 hp3 hh3 hk3 hr3 cx
  go_wp2_with fail
  go_ret2
  have hkeep : Keep2 w w3 b r := ((Below.keep2 HB2.out b r).drew).trans HK5.out (fun x hx => .inl hx)
  have hperm : d'.toList.Perm (ins (relT s n k, t) l) := by
    have h1 : d'.toList.Perm (d.push (relT s n k, t)).toList := HP5.out.toList
    rw [Array.toList_push] at h1
    exact h1.trans ((List.perm_append_singleton _ _).trans ((HP.out.cons _).trans (ins_perm _ _).symm))
  exact ⟨rfl, r', ⟨H.out.slot, ins_sorted _ _ H.out.sorted, by rw [ins_length]; omega, d', HQ5.out, HH5.out, hperm⟩, hkeep, fun x hx => (HR5.out x hx).imp id (fun h => Nat.le_trans HB2.out.size h)⟩
end Go.Proofs.Ytjpkglgbcflbnaa
