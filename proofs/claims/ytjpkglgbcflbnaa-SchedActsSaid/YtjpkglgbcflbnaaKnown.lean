/- The walk of the law SchedKnown, out of the contracts of the queue's methods; that of Waiting comes in as a hypothesis. -/
import Derived.Test.YtjpkglgbcflbnaaSame
import Derived.Test.YtjpkglgbcflbnaaNew
namespace Go.Proofs.Ytjpkglgbcflbnaa
open Go.RowKit

def WaitSaid : Prop := ∀ (w : World) (b : Nat) (r : Option Nat) (s : Int) (l : List Tk), Qu w b r s l →
  Calls Try.prog 16 #[.pointer (some ⟨b, 0, none⟩)] w fun e w' => ∃ v, e = .returned v ∧ IsInts w' v (l.map (·.2)) ∧ Below w.heap.size w w'

/-- From a world on nothing old has turned; block b and row r are new. -/
structure Fresh (w w1 : World) (b : Nat) (r : Option Nat) : Prop where
  below : Below w.heap.size w w1
  b : w.heap.size ≤ b
  r : ∀ x, r = some x → w.heap.size ≤ x

theorem Fresh.call {w w1 w2 : World} {b : Nat} {r : Option Nat} (h : Fresh w w1 b r) (k : Below w1.heap.size w1 w2) : Fresh w w2 b r := ⟨h.below.trans (k.mono h.below.size), h.b, h.r⟩

theorem Fresh.step {w w1 w2 : World} {b : Nat} {r r' : Option Nat} (h : Fresh w w1 b r) (k : Keep2 w1 w2 b r) (hr : ∀ x, r' = some x → r = some x ∨ w1.heap.size ≤ x) : Fresh w w2 b r' :=
  ⟨h.below.trans (k.below h.below.size h.b h.r), h.b, fun x hx => (hr x hx).elim (h.r x) (fun k => Nat.le_trans h.below.size k)⟩

theorem due_ints {w w' : World} {v : Value} {now : Int} {l : List Tk} (h : w'.ownsRow w.heap.size 3 1 v (dueL now l).length ((dueL now l).map fun p => .int .i64 p.2)) (hs : (dueL now l).length ≤ 1000000) : IsInts w' v ((dueL now l).map (·.2)) := by
  refine IsInts.of_owns (base := w.heap.size) ?_ (by simpa using hs)
  rw [List.length_map, List.map_map]
  exact h

theorem ints_lit {w : World} {b : Nat} {cs : Array Value} {t : TypeId} (h : Blk w b cs t) (l : List Int) (hc : cs = (l.map (.int .i64)).toArray) (hs : l.length ≤ 1000000) : IsInts w (.slice (some ⟨b, 0, none⟩) l.length l.length) l := by
  refine ⟨hs, _, _, rfl, fun i hi => ⟨b, 0, rfl, h.lt, ?_⟩⟩
  rw [Nat.zero_add, h.cell, hc]; simp [hi]

set_option maxRecDepth 100000 in
set_option maxHeartbeats 4000000 in
theorem known_any (HW : WaitSaid) (w : World) : Calls Try.prog 5 #[] w fun e w' => e = .returned (.bool true) ∧ Below w.heap.size w w' := by
  have hHW := hid HW; clear HW
  go_enter Try.func5, Try.ntmps5
  go_wp2_with fail
  refine (release_bad 0 1 1 w (by simp [relOk])).mono ?_; rintro e w1 ⟨rfl, hb1⟩
  have B1 := hid hb1; clear hb1
  go_wp2_with fail
  refine (release_bad 10 (-1) 1 w1 (by simp [relOk])).mono ?_; rintro e w2 ⟨rfl, hb2⟩
  have B2 := hid (B1.out.trans (hb2.mono B1.out.size)); clear hb2 B1
  go_wp2_with fail
  refine (release_bad 10 1 (-1) w2 (by simp [relOk])).mono ?_; rintro e w3 ⟨rfl, hb3⟩
  have B3 := hid (B2.out.trans (hb3.mono B2.out.size)); clear hb3 B2
  go_wp2_with fail
  refine (new_ok w3 10 (by omega)).mono ?_; rintro e w4 ⟨b, rfl, hbb, hq4, hb4⟩
  have F4 := hid (show Fresh w w4 b none from ⟨B3.out.trans (hb4.mono B3.out.size), Nat.le_trans B3.out.size hbb, fun x hx => by cases hx⟩)
  have Q4 := hid hq4; clear hb4 B3 hq4 hbb
  go_wp2_with fail
  refine (add_new w4 b none 10 [] Q4.out (by simp) 3 1 2 (by omega) (by simp [relOk]) rfl).mono ?_; rintro e w5 ⟨rfl, r5, hq5, hk5, hr5⟩
  rw [show relT 10 1 2 = 10 from by decide]
  rw [show ins (relT 10 1 2, 3) [] = [(10, 3)] from by decide] at hq5
  have F5 := hid (F4.out.step hk5 hr5); have Q5 := hid hq5; clear hq5 hk5 hr5 F4 Q4
  go_wp2_with fail
  refine (add_new w5 b r5 10 [(10, 3)] Q5.out (by simp) 1 2 3 (by omega) (by simp [relOk]) rfl).mono ?_; rintro e w6 ⟨rfl, r6, hq6, hk6, hr6⟩
  rw [show relT 10 2 3 = 10 from by decide]
  rw [show ins (relT 10 2 3, 1) [(10, 3)] = [(10, 1), (10, 3)] from by decide] at hq6
  have F6 := hid (F5.out.step hk6 hr6); have Q6 := hid hq6; clear hq6 hk6 hr6 F5 Q5
  go_wp2_with fail
  refine (add_new w6 b r6 10 [(10, 1), (10, 3)] Q6.out (by simp) 2 12 9 (by omega) (by simp [relOk]) rfl).mono ?_; rintro e w7 ⟨rfl, r7, hq7, hk7, hr7⟩
  rw [show relT 10 12 9 = 30 from by decide]
  rw [show ins (relT 10 12 9, 2) [(10, 1), (10, 3)] = [(10, 1), (10, 3), (30, 2)] from by decide] at hq7
  have F7 := hid (F6.out.step hk7 hr7); have Q7 := hid hq7; clear hq7 hk7 hr7 F6 Q6
  go_wp2_with fail
  refine (add_dup w7 b r7 10 [(10, 1), (10, 3), (30, 2)] Q7.out 3 50 0 (by omega) (by simp [relOk]) rfl).mono ?_; rintro e w8 ⟨rfl, hb8⟩
  have F8 := hid (F7.out.call hb8); have Q8 := hid (Q7.out.call hb8); clear hb8 F7 Q7
  go_wp2_with fail
  refine (next_any w8 b r7 10 _ Q8.out).mono ?_; rintro e w9 ⟨rfl, rfl⟩
  simp only [List.head?_cons, Option.map_some, Option.getD_some, List.isEmpty_cons, Bool.not_false]
  go_wp2_with fail
  refine (hHW.out w8 b r7 10 _ Q8.out).mono ?_; rintro e w9 ⟨v9, rfl, hi9, hb9⟩
  have F9 := hid (F8.out.call hb9); have Q9 := hid (Q8.out.call hb9); have I9 := hid hi9; clear hb9 hi9 F8 Q8
  go_wp2_with fail
  have L9 := hid ((Below.refl w9.heap.size w9).alloc (Nat.le_refl _) (.cells #[.int .i64 1, .int .i64 3, .int .i64 2] 3))
  refine (same_any (w9.alloc (.cells #[.int .i64 1, .int .i64 3, .int .i64 2] 3)) v9 _ _ [1, 3, 2] (I9.out.call L9.out) (ints_lit (Blk.new w9 _ 3) [1, 3, 2] (by simp) (by simp))).mono ?_; rintro e w10 ⟨rfl, hb10⟩
  have B10 := hid (L9.out.trans (hb10.mono L9.out.size))
  have F10 := hid (F9.out.call B10.out); have Q10 := hid (Q9.out.call B10.out); clear hb10 F9 Q9 I9 L9 B10
  rw [show (List.map (fun x : Tk => x.2) [(10, 1), (10, 3), (30, 2)] == [1, 3, 2]) = true from by decide]
  go_wp2_with fail
  refine (due_any w10 b r7 10 _ 9 Q10.out).mono ?_; rintro e w11 ⟨v11, rfl, ho11, hq11, hk11⟩
  rw [show dueL 9 [(10, 1), (10, 3), (30, 2)] = [] from by decide] at ho11
  rw [show notDue 9 [(10, 1), (10, 3), (30, 2)] = [(10, 1), (10, 3), (30, 2)] from by decide] at hq11
  obtain ⟨a11, c11, rfl⟩ := owns_ex ho11
  have F11 := hid (F10.out.step hk11 (fun x hx => .inl hx)); have Q11 := hid hq11; clear ho11 hq11 hk11 F10 Q10
  go_wp2_with fail
  refine (due_any w11 b r7 10 _ 29 Q11.out).mono ?_; rintro e w12 ⟨v12, rfl, ho12, hq12, hk12⟩
  have I12 := hid (due_ints ho12 (by decide))
  rw [show notDue 29 [(10, 1), (10, 3), (30, 2)] = [(30, 2)] from by decide] at hq12
  have F12 := hid (F11.out.step hk12 (fun x hx => .inl hx)); have Q12 := hid hq12; clear ho12 hq12 hk12 F11 Q11
  go_wp2_with fail
  have L12 := hid ((Below.refl w12.heap.size w12).alloc (Nat.le_refl _) (.cells #[.int .i64 1, .int .i64 3] 3))
  refine (same_any (w12.alloc (.cells #[.int .i64 1, .int .i64 3] 3)) v12 _ _ [1, 3] (I12.out.call L12.out) (ints_lit (Blk.new w12 _ 3) [1, 3] (by simp) (by simp))).mono ?_; rintro e w13 ⟨rfl, hb13⟩
  have B13 := hid (L12.out.trans (hb13.mono L12.out.size))
  have F13 := hid (F12.out.call B13.out); have Q13 := hid (Q12.out.call B13.out); clear hb13 F12 Q12 I12 L12 B13
  rw [show (List.map (fun x : Tk => x.2) (dueL 29 [(10, 1), (10, 3), (30, 2)]) == [1, 3]) = true from by decide]
  go_wp2_with fail
  refine (due_any w13 b r7 10 _ 30 Q13.out).mono ?_; rintro e w14 ⟨v14, rfl, ho14, hq14, hk14⟩
  have I14 := hid (due_ints ho14 (by decide))
  rw [show notDue 30 [(30, 2)] = [] from by decide] at hq14
  have F14 := hid (F13.out.step hk14 (fun x hx => .inl hx)); have Q14 := hid hq14; clear ho14 hq14 hk14 F13 Q13
  go_wp2_with fail
  have L14 := hid ((Below.refl w14.heap.size w14).alloc (Nat.le_refl _) (.cells #[.int .i64 2] 3))
  refine (same_any (w14.alloc (.cells #[.int .i64 2] 3)) v14 _ _ [2] (I14.out.call L14.out) (ints_lit (Blk.new w14 _ 3) [2] (by simp) (by simp))).mono ?_; rintro e w15 ⟨rfl, hb15⟩
  have B15 := hid (L14.out.trans (hb15.mono L14.out.size))
  have F15 := hid (F14.out.call B15.out); have Q15 := hid (Q14.out.call B15.out); clear hb15 F14 Q14 I14 L14 B15
  rw [show (List.map (fun x : Tk => x.2) (dueL 30 [(30, 2)]) == [2]) = true from by decide]
  go_wp2_with fail
  refine (next_any w15 b r7 10 _ Q15.out).mono ?_; rintro e w16 ⟨rfl, rfl⟩
  simp only [List.head?_nil, Option.map_none, Option.getD_none, List.isEmpty_nil, Bool.not_true]
  go_wp2_with fail
  refine (awake_any w15).mono ?_; rintro e w16 ⟨rfl, hb16⟩
  have F16 := hid (F15.out.call hb16); clear hb16 F15 Q15
  go_wp2_with fail
  have hg := gives_ok 10 0 0 (by simp [relOk]) w16
  rw [show relT 10 0 0 = 0 from by decide] at hg
  refine hg.mono ?_; rintro e w17 ⟨rfl, hb17⟩
  have F17 := hid (F16.out.call hb17); clear hb17 F16 hg
  go_wp2_with fail
  go_ret
  exact ⟨rfl, F17.out.below⟩

theorem known_law (HW : WaitSaid) (w : World) : Calls Try.prog 5 #[] w fun e w' => e = .returned (.bool true) ∧ Below w.heap.size w w' := known_any HW w
end Go.Proofs.Ytjpkglgbcflbnaa
