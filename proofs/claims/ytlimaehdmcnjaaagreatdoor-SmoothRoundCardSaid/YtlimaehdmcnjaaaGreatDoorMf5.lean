/- Texts that the proof rests on, merged: R2r, R2h, R2b, R1c, R1e, R2p, R2c, R2o. -/
import Derived.Test.YtlimaehdmcnjaaaGreatDoorMf4
import Derived.IntWalk
import Derived.Deep.RegionHeld3
set_option linter.unusedVariables false
set_option linter.unusedSimpArgs false
set_option linter.unusedSectionVars false
set_option maxRecDepth 100000
set_option maxHeartbeats 8000000
namespace Go.Proofs.YtlimaehdmcnjaaaGreatDoor
open Go.RowKit
open Go.Lib (decDigits nDigits)
structure CutR (s W B D : ByteArray) (S M I fb : Bool) (k : Nat) : Prop where
 sl : ∀ w, Calls Tryz.prog 123 #[.string s] w fun e w' => e = .returned (.int .i64 k) ∧ w = w'
 kle : k ≤ s.size
 cutW : s.extract 0 k = W
 cutB : S = true → s.extract (k + 1) s.size = B
 has : S = decide (k < s.size)
 int : ∀ w, Calls Tryz.prog 124 #[.string W] w fun e w' => e = .returned (.tuple #[.bool M, .string D, .bool I]) ∧ w = w'
 form : ∀ w, Calls Tryz.prog 125 #[.string B] w fun e w' => e = .returned (.bool fb) ∧ w = w'
theorem cutR_of (s : ByteArray) (hs : s.size ≤ 9223372036854775807) : CutR s (cW s) (cB s) (iD (cW s)) (cS s) (iM (cW s)) (iB (cW s)) (fB (cB s)) (cW s).size := by
 have key : ∀ k, isSlash s.data.toList k → k = (cW s).size := by
  intro k hk
  obtain ⟨h1, h2, -⟩ := slash_cut hk
  rw [h2]
  simp
  omega
 have ex : ∃ k, isSlash s.data.toList k := by
  rcases sl_cases s.data.toList with hn | ⟨A, B, hA, e⟩
  ·exact ⟨s.data.toList.length, Nat.le_refl _, fun j b _ hb => hn b (List.mem_of_getElem? hb), fun h => absurd h (Nat.lt_irrefl _)⟩
  ·refine ⟨A.length, by rw [e]; simp, fun j b hj hb => ?_, fun _ => by rw [e]; simp⟩
   rw [e, List.getElem?_append_left hj] at hb
   exact hA b (List.mem_of_getElem? hb)
 obtain ⟨k, hk⟩ := ex
 obtain ⟨h1, h2, h3, h4⟩ := slash_cut hk
 have hk' := key k hk
 subst hk'
 exact {
  sl := fun w => (r2_slash w s (by omega)).mono (by
   rintro e w' ⟨⟨j, rfl, hj⟩, rfl⟩
   rw [key j hj]
   exact ⟨rfl, rfl⟩)
  kle := h1
  cutW := h2.symm
  cutB := fun h => (h4 (by rw [h3] at h; simpa using h)).symm
  has := h3
  int := fun w => r2_integer w (cW s) (by have := cW_size s; omega)
  form := fun w => r2_digits w (cB s) (by have := cB_size s; omega) }
def RetR (x : Int) (m : Bool) (n d : Nat) (e : Ending) (w' : World) : Prop := ∃ v, e = .returned (.tuple #[v, .int .i64 x]) ∧ (x = 0 → ∃ N D, v = .agg #[.bool m, N, D] ∧ IsN .i64 w' N n ∧ IsN .i64 w' D d) ∧ (x ≠ 0 → v = .agg #[.bool false, .slice none 0 0, .slice none 0 0])
theorem RetR.err {x : Int} {m : Bool} {n d : Nat} {w' : World} (h : x ≠ 0) : RetR x m n d (.returned (.tuple #[.agg #[.bool false, .slice none 0 0, .slice none 0 0], .int .i64 x])) w' := ⟨_, rfl, fun e => absurd e h, fun _ => rfl⟩
theorem rd_bad (w : World) (s W B D : ByteArray) (S M I fb : Bool) (k : Nat) (hs : s.size ≤ 9223372036854775807) (HC : CutR s W B D S M I fb k)
 (h : (I && (!S || (decide (D ≠ ⟨#[48]⟩) && fb && decide (B ≠ ⟨#[48]⟩) && decide (B ≠ ⟨#[49]⟩)))) = false) :
 Calls Tryz.prog 77 #[.string s] w fun e w' => e = .returned (.tuple #[.agg #[.bool false, .slice none 0 0, .slice none 0 0], .int .i64 3]) ∧ Below w.heap.size w w' := by
 have key : (I = false) ∨ (I = true ∧ S = true ∧ (D = ⟨#[48]⟩ ∨ (¬ D = ⟨#[48]⟩ ∧ (fb = false ∨ (fb = true ∧ (B = ⟨#[48]⟩ ∨ (¬ B = ⟨#[48]⟩ ∧ B = ⟨#[49]⟩))))))) := by
  by_cases h1 : D = ⟨#[48]⟩ <;> by_cases h2 : B = ⟨#[48]⟩ <;> by_cases h3 : B = ⟨#[49]⟩ <;> cases I <;> cases S <;> cases fb <;> simp [h1, h2, h3] at h ⊢
 have HK := hid HC
 have kle := HC.kle
 have hlt := HC.has
 have cw := hid HC.cutW
 have cb := hid HC.cutB
 clear HC h
 have t0 := hid (Blk.new w #[.bool false, .slice none 0 0, .slice none 0 0] 79)
 have t1 := hid ((Below.refl w.heap.size w).alloc (Nat.le_refl _) (.cells #[.bool false, .slice none 0 0, .slice none 0 0] 79))
 have d0 := t0.out.cell 0
 have d1 := t0.out.cell 1
 have d2 := t0.out.cell 2
 have e0 := t0.out.free 0
 have e1 := t0.out.free 1
 have e2 := t0.out.free 2
 simp at d0 d1 d2
 have ht : ∀ {b : Bool}, b = decide (k < s.size) → decide (k < s.size) = b := fun h => h.symm
 have kle2 : S = true → k + 1 ≤ s.size := fun h => by rw [h] at hlt; have := of_decide_eq_true hlt.symm; omega
 have wk2 : S = true → IntKind.i64.wrap ((k : Int) + 1) = (k : Int) + 1 := fun h => by have := kle2 h; rw [IntWalk.i64_in _ ⟨by omega, by omega⟩]
 rcases key with rfl | ⟨rfl, rfl, rfl | ⟨h1, rfl | ⟨rfl, rfl | ⟨h2, rfl⟩⟩⟩⟩
 ·cases S
  ·have q0 := ht hlt
   clear hlt ht kle2 wk2
   go_enter Tryz.func77, Tryz.ntmps77
   go_wp2_with (first
    | (go_at_call 123; refine (HK.out.sl _).mono ?_; rintro e w1 ⟨rfl, rfl⟩)
    | (go_at_call 124; rw [cw.out]; refine (HK.out.int _).mono ?_; rintro e w2 ⟨rfl, rfl⟩)
    | (go_at_call 125; (first | rw [cb.out trivial] | rw [cb.out rfl]); refine (HK.out.form _).mono ?_; rintro e w3 ⟨rfl, rfl⟩)
    | fail)
   obtain ⟨s1, s2⟩ := set3 t0.out false none none 0 0 0 0
   have f0 := s2.cell 0
   have f1 := s2.cell 1
   have f2 := s2.cell 2
   simp at f0 f1 f2
   refine bodyPost_ret (v := .tuple #[.agg #[.bool false, .slice none 0 0, .slice none 0 0], .int .i64 3]) (by simp [results, Tryz.results77, go_sem, f0, f1, f2]) rfl ⟨rfl, ?_⟩
   first | exact t1.out | exact ((t1.out.setCell (Nat.le_refl _) _).setCell (Nat.le_refl _) _).setCell (Nat.le_refl _) _
  ·have q0 := ht hlt
   have kle3 := kle2 rfl
   have wk := wk2 rfl
   clear hlt ht kle2 wk2
   go_enter Tryz.func77, Tryz.ntmps77
   go_wp2_with (first
    | (go_at_call 123; refine (HK.out.sl _).mono ?_; rintro e w1 ⟨rfl, rfl⟩)
    | (go_at_call 124; rw [cw.out]; refine (HK.out.int _).mono ?_; rintro e w2 ⟨rfl, rfl⟩)
    | (go_at_call 125; (first | rw [cb.out trivial] | rw [cb.out rfl]); refine (HK.out.form _).mono ?_; rintro e w3 ⟨rfl, rfl⟩)
    | fail)
   obtain ⟨s1, s2⟩ := set3 t0.out false none none 0 0 0 0
   have f0 := s2.cell 0
   have f1 := s2.cell 1
   have f2 := s2.cell 2
   simp at f0 f1 f2
   refine bodyPost_ret (v := .tuple #[.agg #[.bool false, .slice none 0 0, .slice none 0 0], .int .i64 3]) (by simp [results, Tryz.results77, go_sem, f0, f1, f2]) rfl ⟨rfl, ?_⟩
   first | exact t1.out | exact ((t1.out.setCell (Nat.le_refl _) _).setCell (Nat.le_refl _) _).setCell (Nat.le_refl _) _
 ·have q0 := ht hlt
  have kle3 := kle2 rfl
  have wk := wk2 rfl
  clear hlt ht kle2 wk2
  go_enter Tryz.func77, Tryz.ntmps77
  go_wp2_with (first
   | (go_at_call 123; refine (HK.out.sl _).mono ?_; rintro e w1 ⟨rfl, rfl⟩)
   | (go_at_call 124; rw [cw.out]; refine (HK.out.int _).mono ?_; rintro e w2 ⟨rfl, rfl⟩)
   | (go_at_call 125; (first | rw [cb.out trivial] | rw [cb.out rfl]); refine (HK.out.form _).mono ?_; rintro e w3 ⟨rfl, rfl⟩)
   | fail)
  obtain ⟨s1, s2⟩ := set3 t0.out false none none 0 0 0 0
  have f0 := s2.cell 0
  have f1 := s2.cell 1
  have f2 := s2.cell 2
  simp at f0 f1 f2
  refine bodyPost_ret (v := .tuple #[.agg #[.bool false, .slice none 0 0, .slice none 0 0], .int .i64 3]) (by simp [results, Tryz.results77, go_sem, f0, f1, f2]) rfl ⟨rfl, ?_⟩
  first | exact t1.out | exact ((t1.out.setCell (Nat.le_refl _) _).setCell (Nat.le_refl _) _).setCell (Nat.le_refl _) _
 ·have q0 := ht hlt
  have kle3 := kle2 rfl
  have wk := wk2 rfl
  have i1 := ne_lit (l := [48]) h1
  clear hlt ht kle2 wk2
  go_enter Tryz.func77, Tryz.ntmps77
  go_wp2_with (first
   | (go_at_call 123; refine (HK.out.sl _).mono ?_; rintro e w1 ⟨rfl, rfl⟩)
   | (go_at_call 124; rw [cw.out]; refine (HK.out.int _).mono ?_; rintro e w2 ⟨rfl, rfl⟩)
   | (go_at_call 125; (first | rw [cb.out trivial] | rw [cb.out rfl]); refine (HK.out.form _).mono ?_; rintro e w3 ⟨rfl, rfl⟩)
   | fail)
  obtain ⟨s1, s2⟩ := set3 t0.out false none none 0 0 0 0
  have f0 := s2.cell 0
  have f1 := s2.cell 1
  have f2 := s2.cell 2
  simp at f0 f1 f2
  refine bodyPost_ret (v := .tuple #[.agg #[.bool false, .slice none 0 0, .slice none 0 0], .int .i64 3]) (by simp [results, Tryz.results77, go_sem, f0, f1, f2]) rfl ⟨rfl, ?_⟩
  first | exact t1.out | exact ((t1.out.setCell (Nat.le_refl _) _).setCell (Nat.le_refl _) _).setCell (Nat.le_refl _) _
 ·have q0 := ht hlt
  have kle3 := kle2 rfl
  have wk := wk2 rfl
  have i1 := ne_lit (l := [48]) h1
  clear hlt ht kle2 wk2
  go_enter Tryz.func77, Tryz.ntmps77
  go_wp2_with (first
   | (go_at_call 123; refine (HK.out.sl _).mono ?_; rintro e w1 ⟨rfl, rfl⟩)
   | (go_at_call 124; rw [cw.out]; refine (HK.out.int _).mono ?_; rintro e w2 ⟨rfl, rfl⟩)
   | (go_at_call 125; (first | rw [cb.out trivial] | rw [cb.out rfl]); refine (HK.out.form _).mono ?_; rintro e w3 ⟨rfl, rfl⟩)
   | fail)
  obtain ⟨s1, s2⟩ := set3 t0.out false none none 0 0 0 0
  have f0 := s2.cell 0
  have f1 := s2.cell 1
  have f2 := s2.cell 2
  simp at f0 f1 f2
  refine bodyPost_ret (v := .tuple #[.agg #[.bool false, .slice none 0 0, .slice none 0 0], .int .i64 3]) (by simp [results, Tryz.results77, go_sem, f0, f1, f2]) rfl ⟨rfl, ?_⟩
  first | exact t1.out | exact ((t1.out.setCell (Nat.le_refl _) _).setCell (Nat.le_refl _) _).setCell (Nat.le_refl _) _
 ·have q0 := ht hlt
  have kle3 := kle2 rfl
  have wk := wk2 rfl
  have i1 := ne_lit (l := [48]) h1
  have i2 := ne_lit (l := [48]) h2
  clear hlt ht kle2 wk2
  go_enter Tryz.func77, Tryz.ntmps77
  go_wp2_with (first
   | (go_at_call 123; refine (HK.out.sl _).mono ?_; rintro e w1 ⟨rfl, rfl⟩)
   | (go_at_call 124; rw [cw.out]; refine (HK.out.int _).mono ?_; rintro e w2 ⟨rfl, rfl⟩)
   | (go_at_call 125; (first | rw [cb.out trivial] | rw [cb.out rfl]); refine (HK.out.form _).mono ?_; rintro e w3 ⟨rfl, rfl⟩)
   | fail)
  obtain ⟨s1, s2⟩ := set3 t0.out false none none 0 0 0 0
  have f0 := s2.cell 0
  have f1 := s2.cell 1
  have f2 := s2.cell 2
  simp at f0 f1 f2
  refine bodyPost_ret (v := .tuple #[.agg #[.bool false, .slice none 0 0, .slice none 0 0], .int .i64 3]) (by simp [results, Tryz.results77, go_sem, f0, f1, f2]) rfl ⟨rfl, ?_⟩
  first | exact t1.out | exact ((t1.out.setCell (Nat.le_refl _) _).setCell (Nat.le_refl _) _).setCell (Nat.le_refl _) _
theorem rd_long (w : World) (s W B D : ByteArray) (S M fb : Bool) (k : Nat) (hs : s.size ≤ 9223372036854775807) (HC : CutR s W B D S M true fb k)
 (h : S = false ∨ (S = true ∧ ¬ D = ⟨#[48]⟩ ∧ ¬ B = ⟨#[48]⟩ ∧ ¬ B = ⟨#[49]⟩ ∧ fb = true)) (hl : 4000 < D.size ∨ (¬ 4000 < D.size ∧ S = true ∧ 4000 < B.size)) :
 Calls Tryz.prog 77 #[.string s] w fun e w' => e = .returned (.tuple #[.agg #[.bool false, .slice none 0 0, .slice none 0 0], .int .i64 5]) ∧ Below w.heap.size w w' := by
 have HK := hid HC
 have kle := HC.kle
 have hlt := HC.has
 have cw := hid HC.cutW
 have cb := hid HC.cutB
 clear HC
 have t0 := hid (Blk.new w #[.bool false, .slice none 0 0, .slice none 0 0] 79)
 have t1 := hid ((Below.refl w.heap.size w).alloc (Nat.le_refl _) (.cells #[.bool false, .slice none 0 0, .slice none 0 0] 79))
 have d0 := t0.out.cell 0
 have d1 := t0.out.cell 1
 have d2 := t0.out.cell 2
 have e0 := t0.out.free 0
 have e1 := t0.out.free 1
 have e2 := t0.out.free 2
 simp at d0 d1 d2
 have kle2 : S = true → k + 1 ≤ s.size := fun h => by rw [h] at hlt; have := of_decide_eq_true hlt.symm; omega
 have wk2 : S = true → IntKind.i64.wrap ((k : Int) + 1) = (k : Int) + 1 := fun h => by have := kle2 h; rw [IntWalk.i64_in _ ⟨by omega, by omega⟩]
 have q0 := hlt.symm
 clear hlt
 rcases h with rfl | ⟨rfl, h1, h2, h3, rfl⟩
 ·have q1 : decide ((4000 : Int) < (D.size : Int)) = true := by
   rcases hl with hl | ⟨_, hl, _⟩
   ·simp; omega
   ·cases hl
  clear hl kle2 wk2
  go_enter Tryz.func77, Tryz.ntmps77
  go_wp2_with (first
   | (go_at_call 123; refine (HK.out.sl _).mono ?_; rintro e w1 ⟨rfl, rfl⟩)
   | (go_at_call 124; rw [cw.out]; refine (HK.out.int _).mono ?_; rintro e w2 ⟨rfl, rfl⟩)
   | (go_at_call 125; (first | rw [cb.out trivial] | rw [cb.out rfl]); refine (HK.out.form _).mono ?_; rintro e w3 ⟨rfl, rfl⟩)
   | fail)
  obtain ⟨s1, s2⟩ := set3 t0.out false none none 0 0 0 0
  have f0 := s2.cell 0
  have f1 := s2.cell 1
  have f2 := s2.cell 2
  simp at f0 f1 f2
  refine bodyPost_ret (v := .tuple #[.agg #[.bool false, .slice none 0 0, .slice none 0 0], .int .i64 5]) (by simp [results, Tryz.results77, go_sem, f0, f1, f2]) rfl ⟨rfl, ?_⟩
  first | exact t1.out | exact ((t1.out.setCell (Nat.le_refl _) _).setCell (Nat.le_refl _) _).setCell (Nat.le_refl _) _
 ·have kle3 := kle2 rfl
  have wk := wk2 rfl
  have i1 := ne_lit (l := [48]) h1
  have i2 := ne_lit (l := [48]) h2
  have i3 := ne_lit (l := [49]) h3
  clear kle2 wk2
  rcases hl with hl | ⟨hl, -, hl2⟩
  ·have q1 : decide ((4000 : Int) < (D.size : Int)) = true := by simp; omega
   clear hl
   go_enter Tryz.func77, Tryz.ntmps77
   go_wp2_with (first
    | (go_at_call 123; refine (HK.out.sl _).mono ?_; rintro e w1 ⟨rfl, rfl⟩)
    | (go_at_call 124; rw [cw.out]; refine (HK.out.int _).mono ?_; rintro e w2 ⟨rfl, rfl⟩)
    | (go_at_call 125; (first | rw [cb.out trivial] | rw [cb.out rfl]); refine (HK.out.form _).mono ?_; rintro e w3 ⟨rfl, rfl⟩)
    | fail)
   obtain ⟨s1, s2⟩ := set3 t0.out false none none 0 0 0 0
   have f0 := s2.cell 0
   have f1 := s2.cell 1
   have f2 := s2.cell 2
   simp at f0 f1 f2
   refine bodyPost_ret (v := .tuple #[.agg #[.bool false, .slice none 0 0, .slice none 0 0], .int .i64 5]) (by simp [results, Tryz.results77, go_sem, f0, f1, f2]) rfl ⟨rfl, ?_⟩
   first | exact t1.out | exact ((t1.out.setCell (Nat.le_refl _) _).setCell (Nat.le_refl _) _).setCell (Nat.le_refl _) _
  ·have q1 : decide ((4000 : Int) < (D.size : Int)) = false := by simp; omega
   have q2 : decide ((4000 : Int) < (B.size : Int)) = true := by simp; omega
   clear hl hl2
   go_enter Tryz.func77, Tryz.ntmps77
   go_wp2_with (first
    | (go_at_call 123; refine (HK.out.sl _).mono ?_; rintro e w1 ⟨rfl, rfl⟩)
    | (go_at_call 124; rw [cw.out]; refine (HK.out.int _).mono ?_; rintro e w2 ⟨rfl, rfl⟩)
    | (go_at_call 125; (first | rw [cb.out trivial] | rw [cb.out rfl]); refine (HK.out.form _).mono ?_; rintro e w3 ⟨rfl, rfl⟩)
    | fail)
   obtain ⟨s1, s2⟩ := set3 t0.out false none none 0 0 0 0
   have f0 := s2.cell 0
   have f1 := s2.cell 1
   have f2 := s2.cell 2
   simp at f0 f1 f2
   refine bodyPost_ret (v := .tuple #[.agg #[.bool false, .slice none 0 0, .slice none 0 0], .int .i64 5]) (by simp [results, Tryz.results77, go_sem, f0, f1, f2]) rfl ⟨rfl, ?_⟩
   first | exact t1.out | exact ((t1.out.setCell (Nat.le_refl _) _).setCell (Nat.le_refl _) _).setCell (Nat.le_refl _) _
def RetRF (B : Nat) (x : Int) (m : Bool) (n d : Nat) (e : Ending) (w' : World) : Prop := ∃ v, e = .returned (.tuple #[v, .int .i64 x]) ∧ (x = 0 → ∃ N D, v = .agg #[.bool m, N, D] ∧ IsN .i64 w' N n ∧ IsN .i64 w' D d ∧ (∀ g, N.ownBlock = some g → B ≤ g) ∧ (∀ g, D.ownBlock = some g → B ≤ g)) ∧ (x ≠ 0 → v = .agg #[.bool false, .slice none 0 0, .slice none 0 0])
theorem RetRF.err {B : Nat} {x : Int} {m : Bool} {n d : Nat} {w' : World} (h : x ≠ 0) : RetRF B x m n d (.returned (.tuple #[.agg #[.bool false, .slice none 0 0, .slice none 0 0], .int .i64 x])) w' := ⟨_, rfl, fun e => absurd e h, fun _ => rfl⟩
theorem rd_fracF (w : World) (s W B D : ByteArray) (M : Bool) (k : Nat) (hs : s.size ≤ 1000000) (HC : CutR s W B D true M true true k)
 (h1 : ¬ D = ⟨#[48]⟩) (h2 : ¬ B = ⟨#[48]⟩) (h3 : ¬ B = ⟨#[49]⟩) (hl1 : ¬ 4000 < D.size) (hl2 : ¬ 4000 < B.size) (hd1 : allDig D.data.toList) (hd2 : allDig B.data.toList) :
 Calls Tryz.prog 77 #[.string s] w fun e w' => RetRF w.heap.size (if Nat.gcd (bN D) (bN B) = 1 then 0 else 3) M (bN D) (bN B) e w' ∧ Below w.heap.size w w' := by
 obtain ⟨xc, hxc⟩ : ∃ x : Int, (if Nat.gcd (bN D) (bN B) = 1 then 0 else 3) = x := ⟨_, rfl⟩
 rw [hxc]
 have HXC := hid hxc
 clear hxc
 have HK := hid HC
 have kle := HC.kle
 have hlt := HC.has
 have cw := hid HC.cutW
 have cb := hid HC.cutB
 clear HC
 have t0 := hid (Blk.new w #[.bool false, .slice none 0 0, .slice none 0 0] 79)
 have t1 := hid ((Below.refl w.heap.size w).alloc (Nat.le_refl _) (.cells #[.bool false, .slice none 0 0, .slice none 0 0] 79))
 have wk : IntKind.i64.wrap ((k : Int) + 1) = (k : Int) + 1 := by rw [IntWalk.i64_in _ ⟨by omega, by omega⟩]
 have kle3 : k + 1 ≤ s.size := by have := of_decide_eq_true hlt.symm; omega
 have q0 := hlt.symm
 clear hlt
 have i1 := ne_lit (l := [48]) h1
 have i2 := ne_lit (l := [48]) h2
 have i3 := ne_lit (l := [49]) h3
 have q1 : decide ((4000 : Int) < (D.size : Int)) = false := by simp; omega
 have q2 : decide ((4000 : Int) < (B.size : Int)) = false := by simp; omega
 have L1 := hid (bN_limbs hd1 hl1)
 have L2 := hid (bN_limbs hd2 hl2)
 have P1 := fun W => hid (r1_ReadF W D hd1 (by omega))
 have P2 := fun W => hid (r1_ReadF W B hd2 (by omega))
 clear hd1 hd2 h1 h2 h3 hl1 hl2
 go_enter Tryz.func77, Tryz.ntmps77
 go_wp2_with (first
  | (go_at_call 123; refine (HK.out.sl _).mono ?_; rintro e w1 ⟨rfl, rfl⟩)
  | (go_at_call 124; rw [cw.out]; refine (HK.out.int _).mono ?_; rintro e w2 ⟨rfl, rfl⟩)
  | (go_at_call 125; (first | rw [cb.out trivial] | rw [cb.out rfl]); refine (HK.out.form _).mono ?_; rintro e w3 ⟨rfl, rfl⟩)
  | fail)
 refine (P1 _).out.mono ?_; rintro e w4 ⟨⟨v4, rfl, hv4, hf4⟩, hb4⟩
 have F4 := hid (fun g hg => Nat.le_trans t1.out.size (hf4 g hg))
 have x4 := hid (t0.out.call hb4)
 have y4 := hid (bnext t1.out hb4)
 have N4 := hid hv4
 clear hb4 hv4 hf4
 obtain ⟨a4, c4, rfl, _⟩ := N4.out.openI
 obtain ⟨k1, hk1⟩ : ∃ k, (limbs (dv D.data.toList)).length = k := ⟨_, rfl⟩
 rw [hk1] at N4 F4 ⊢
 clear P1
 go_wp2_with fail
 refine (P2 _).out.mono ?_; rintro e w5 ⟨⟨v5, rfl, hv5, hf5⟩, hb5⟩
 have F5 := hid (fun g hg => Nat.le_trans y4.out.size (hf5 g hg))
 have x5 := hid (x4.out.call hb5)
 have y5 := hid (bnext y4.out hb5)
 have N5 := hid (N4.out.call hb5)
 have D5 := hid hv5
 clear hb5 hv5 hf5
 obtain ⟨a5, c5, rfl, _⟩ := D5.out.openI
 obtain ⟨k2, hk2⟩ : ∃ k, (limbs (dv B.data.toList)).length = k := ⟨_, rfl⟩
 rw [hk2] at D5 F5 ⊢
 clear P2
 go_wp2_with fail
 have z5 := hid (Blk.new w5 #[.bool M, .slice a4 k1 c4, .slice a5 k2 c5] 79)
 have b5 := hid ((Below.refl w5.heap.size w5).alloc (Nat.le_refl _) (.cells #[.bool M, .slice a4 k1 c4, .slice a5 k2 c5] 79))
 have g0 := z5.out.cell 0
 have g1 := z5.out.cell 1
 have g2 := z5.out.cell 2
 simp at g0 g1 g2
 go_wp2_with fail
 refine (r1_Common _ _ _ _ _ (N5.out.call b5.out) (D5.out.call b5.out) L1.out L2.out).mono ?_
 rintro e w6 ⟨⟨v6, rfl, hv6⟩, hb6⟩
 have z6 := hid (z5.out.call hb6)
 have x6 := hid ((x5.out.call b5.out).call hb6)
 have y6 := hid (bnext (bnext y5.out b5.out) hb6)
 have N6 := hid ((N5.out.call b5.out).call hb6)
 have D6 := hid ((D5.out.call b5.out).call hb6)
 have G6 := hid hv6
 clear hb6 hv6 g0 g1 g2
 go_wp2_with fail
 refine (r2_one _).mono ?_
 rintro e w7 ⟨⟨v7, rfl, hv7⟩, hb7⟩
 have z7 := hid (z6.out.call hb7)
 have x7 := hid (x6.out.call hb7)
 have y7 := hid (bnext y6.out hb7)
 have N7 := hid (N6.out.call hb7)
 have D7 := hid (D6.out.call hb7)
 have G7 := hid (G6.out.call hb7)
 have O7 := hid hv7
 clear hb7 hv7
 go_wp2_with fail
 refine (r1_Order _ _ _ _ _ G7.out O7.out).mono ?_
 rintro e w8 ⟨rfl, hb8⟩
 have z8 := hid (z7.out.call hb8)
 have x8 := hid (x7.out.call hb8)
 have y8 := hid (bnext y7.out hb8)
 have N8 := hid (N7.out.call hb8)
 have D8 := hid (D7.out.call hb8)
 clear hb8
 have d0 := x8.out.cell 0
 have d1 := x8.out.cell 1
 have d2 := x8.out.cell 2
 have e0 := x8.out.free 0
 have e1 := x8.out.free 1
 have e2 := x8.out.free 2
 have g0 := z8.out.cell 0
 have g1 := z8.out.cell 1
 have g2 := z8.out.cell 2
 simp at d0 d1 d2 g0 g1 g2
 by_cases hG : Nat.gcd (bN D) (bN B) = 1
 ·have hO : ordN (Nat.gcd (dv D.data.toList) (dv B.data.toList)) 1 = 0 := by rw [show Nat.gcd (dv D.data.toList) (dv B.data.toList) = 1 from hG]; exact ordN_eq
  have X0 := hid (show xc = 0 from by rw [← HXC.out, if_pos hG])
  rw [hO]
  clear hO hG
  go_wp2_with fail
  obtain ⟨s1, s2⟩ := set3 x8.out M a4 a5 k1 c4 k2 c5
  have f0 := s2.cell 0
  have f1 := s2.cell 1
  have f2 := s2.cell 2
  simp at f0 f1 f2
  refine bodyPost_ret (v := .tuple #[.agg #[.bool M, .slice a4 k1 c4, .slice a5 k2 c5], .int .i64 0]) (by simp [results, Tryz.results77, go_sem, f0, f1, f2]) rfl ⟨by rw [X0.out]; exact ⟨_, rfl, fun _ => ⟨_, _, rfl, s1 _ _ _ N8.out, s1 _ _ _ D8.out, F4.out, F5.out⟩, fun h => absurd rfl h⟩, ?_⟩
  exact ((y8.out.setCell (Nat.le_refl _) _).setCell (Nat.le_refl _) _).setCell (Nat.le_refl _) _
 ·have hO : (ordN (Nat.gcd (dv D.data.toList) (dv B.data.toList)) 1 != 0) = true := by
   have hG' : ¬ Nat.gcd (dv D.data.toList) (dv B.data.toList) = 1 := hG
   unfold ordN
   split
   ·rfl
   ·split
    ·rfl
    ·omega
  have X0 := hid (show xc = 3 from by rw [← HXC.out, if_neg hG])
  obtain ⟨t, ht⟩ : ∃ t, ordN (Nat.gcd (dv D.data.toList) (dv B.data.toList)) 1 = t := ⟨_, rfl⟩
  rw [ht] at hO ⊢
  clear ht hG
  go_wp2_with fail
  obtain ⟨s1, s2⟩ := set3 x8.out false none none 0 0 0 0
  have f0 := s2.cell 0
  have f1 := s2.cell 1
  have f2 := s2.cell 2
  simp at f0 f1 f2
  refine bodyPost_ret (v := .tuple #[.agg #[.bool false, .slice none 0 0, .slice none 0 0], .int .i64 3]) (by simp [results, Tryz.results77, go_sem, f0, f1, f2]) rfl ⟨by rw [X0.out]; exact RetRF.err (by decide), ?_⟩
  exact ((y8.out.setCell (Nat.le_refl _) _).setCell (Nat.le_refl _) _).setCell (Nat.le_refl _) _
theorem rd_intF (w : World) (s W B D : ByteArray) (M fb : Bool) (k : Nat) (hs : s.size ≤ 1000000) (HC : CutR s W B D false M true fb k)
 (hl1 : ¬ 4000 < D.size) (hd1 : allDig D.data.toList) :
 Calls Tryz.prog 77 #[.string s] w fun e w' => RetRF w.heap.size 0 M (bN D) 1 e w' ∧ Below w.heap.size w w' := by
 have HK := hid HC
 have kle := HC.kle
 have hlt := HC.has
 have cw := hid HC.cutW
 have cb := hid HC.cutB
 clear HC
 have t0 := hid (Blk.new w #[.bool false, .slice none 0 0, .slice none 0 0] 79)
 have t1 := hid ((Below.refl w.heap.size w).alloc (Nat.le_refl _) (.cells #[.bool false, .slice none 0 0, .slice none 0 0] 79))
 have wk : IntKind.i64.wrap ((k : Int) + 1) = (k : Int) + 1 := by rw [IntWalk.i64_in _ ⟨by omega, by omega⟩]
 have q0 := hlt.symm
 clear hlt
 have q1 : decide ((4000 : Int) < (D.size : Int)) = false := by simp; omega
 have L1 := hid (bN_limbs hd1 hl1)
 have L2 : Hid ((limbs 1).length ≤ 1000000) := by show _ ≤ _; rw [limbs_one]; decide
 have P1 := fun W => hid (r1_ReadF W D hd1 (by omega))
 have P2 : ∀ W, Hid (Calls Tryz.prog 73 #[.string ⟨#[49]⟩] W fun e w' => RetFr W.heap.size .i64 1 e w' ∧ Below W.heap.size W w') := fun W => hid (r1_ReadF W ⟨#[49]⟩ (by intro b hb; simp at hb; subst hb; rfl) (Nat.succ_le_succ (Nat.zero_le _)))
 have hO : ordN (Nat.gcd (dv D.data.toList) 1) 1 = 0 := by rw [Nat.gcd_one_right]; exact ordN_eq
 have HO := hid hO
 clear hd1 hl1 hO
 go_enter Tryz.func77, Tryz.ntmps77
 go_wp2_with (first
  | (go_at_call 123; refine (HK.out.sl _).mono ?_; rintro e w1 ⟨rfl, rfl⟩)
  | (go_at_call 124; rw [cw.out]; refine (HK.out.int _).mono ?_; rintro e w2 ⟨rfl, rfl⟩)
  | (go_at_call 125; (first | rw [cb.out trivial] | rw [cb.out rfl]); refine (HK.out.form _).mono ?_; rintro e w3 ⟨rfl, rfl⟩)
  | fail)
 refine (P1 _).out.mono ?_; rintro e w4 ⟨⟨v4, rfl, hv4, hf4⟩, hb4⟩
 have F4 := hid (fun g hg => Nat.le_trans t1.out.size (hf4 g hg))
 have x4 := hid (t0.out.call hb4)
 have y4 := hid (bnext t1.out hb4)
 have N4 := hid hv4
 clear hb4 hv4 hf4
 obtain ⟨a4, c4, rfl, _⟩ := N4.out.openI
 obtain ⟨k1, hk1⟩ : ∃ k, (limbs (dv D.data.toList)).length = k := ⟨_, rfl⟩
 rw [hk1] at N4 F4 ⊢
 clear P1
 go_wp2_with fail
 refine (P2 _).out.mono ?_; rintro e w5 ⟨⟨v5, rfl, hv5, hf5⟩, hb5⟩
 have F5 := hid (fun g hg => Nat.le_trans y4.out.size (hf5 g hg))
 have x5 := hid (x4.out.call hb5)
 have y5 := hid (bnext y4.out hb5)
 have N5 := hid (N4.out.call hb5)
 have D5 := hid hv5
 clear hb5 hv5 hf5
 obtain ⟨a5, c5, rfl, _⟩ := D5.out.openI
 obtain ⟨k2, hk2⟩ : ∃ k, (limbs 1).length = k := ⟨_, rfl⟩
 rw [hk2] at D5 F5 ⊢
 clear P2
 go_wp2_with fail
 have z5 := hid (Blk.new w5 #[.bool M, .slice a4 k1 c4, .slice a5 k2 c5] 79)
 have b5 := hid ((Below.refl w5.heap.size w5).alloc (Nat.le_refl _) (.cells #[.bool M, .slice a4 k1 c4, .slice a5 k2 c5] 79))
 have g0 := z5.out.cell 0
 have g1 := z5.out.cell 1
 have g2 := z5.out.cell 2
 simp at g0 g1 g2
 go_wp2_with fail
 refine (r1_Common _ _ _ _ _ (N5.out.call b5.out) (D5.out.call b5.out) L1.out L2.out).mono ?_
 rintro e w6 ⟨⟨v6, rfl, hv6⟩, hb6⟩
 have z6 := hid (z5.out.call hb6)
 have x6 := hid ((x5.out.call b5.out).call hb6)
 have y6 := hid (bnext (bnext y5.out b5.out) hb6)
 have N6 := hid ((N5.out.call b5.out).call hb6)
 have D6 := hid ((D5.out.call b5.out).call hb6)
 have G6 := hid hv6
 clear hb6 hv6 g0 g1 g2
 go_wp2_with fail
 refine (r2_one _).mono ?_
 rintro e w7 ⟨⟨v7, rfl, hv7⟩, hb7⟩
 have z7 := hid (z6.out.call hb7)
 have x7 := hid (x6.out.call hb7)
 have y7 := hid (bnext y6.out hb7)
 have N7 := hid (N6.out.call hb7)
 have D7 := hid (D6.out.call hb7)
 have G7 := hid (G6.out.call hb7)
 have O7 := hid hv7
 clear hb7 hv7
 go_wp2_with fail
 refine (r1_Order _ _ _ _ _ G7.out O7.out).mono ?_
 rintro e w8 ⟨rfl, hb8⟩
 have z8 := hid (z7.out.call hb8)
 have x8 := hid (x7.out.call hb8)
 have y8 := hid (bnext y7.out hb8)
 have N8 := hid (N7.out.call hb8)
 have D8 := hid (D7.out.call hb8)
 clear hb8
 have d0 := x8.out.cell 0
 have d1 := x8.out.cell 1
 have d2 := x8.out.cell 2
 have e0 := x8.out.free 0
 have e1 := x8.out.free 1
 have e2 := x8.out.free 2
 have g0 := z8.out.cell 0
 have g1 := z8.out.cell 1
 have g2 := z8.out.cell 2
 simp at d0 d1 d2 g0 g1 g2
 rw [HO.out]
 go_wp2_with fail
 obtain ⟨s1, s2⟩ := set3 x8.out M a4 a5 k1 c4 k2 c5
 have f0 := s2.cell 0
 have f1 := s2.cell 1
 have f2 := s2.cell 2
 simp at f0 f1 f2
 refine bodyPost_ret (v := .tuple #[.agg #[.bool M, .slice a4 k1 c4, .slice a5 k2 c5], .int .i64 0]) (by simp [results, Tryz.results77, go_sem, f0, f1, f2]) rfl ⟨⟨_, rfl, fun _ => ⟨_, _, rfl, s1 _ _ _ N8.out, s1 _ _ _ D8.out, F4.out, F5.out⟩, fun h => absurd rfl h⟩, ?_⟩
 exact ((y8.out.setCell (Nat.le_refl _) _).setCell (Nat.le_refl _) _).setCell (Nat.le_refl _) _
theorem RetRF.ret {B : Nat} {x : Int} {m : Bool} {n d : Nat} {e : Ending} {w' : World} (h : RetRF B x m n d e w') : RetR x m n d e w' := by
 obtain ⟨v, h1, h2, h3⟩ := h
 refine ⟨v, h1, fun h => ?_, h3⟩
 obtain ⟨N, D, k1, k2, k3, -, -⟩ := h2 h
 exact ⟨N, D, k1, k2, k3⟩
theorem rd_frac (w : World) (s W B D : ByteArray) (M : Bool) (k : Nat) (hs : s.size ≤ 1000000) (HC : CutR s W B D true M true true k)
 (h1 : ¬ D = ⟨#[48]⟩) (h2 : ¬ B = ⟨#[48]⟩) (h3 : ¬ B = ⟨#[49]⟩) (hl1 : ¬ 4000 < D.size) (hl2 : ¬ 4000 < B.size) (hd1 : allDig D.data.toList) (hd2 : allDig B.data.toList) :
 Calls Tryz.prog 77 #[.string s] w fun e w' => RetR (if Nat.gcd (bN D) (bN B) = 1 then 0 else 3) M (bN D) (bN B) e w' ∧ Below w.heap.size w w' :=
 (rd_fracF w s W B D M k hs HC h1 h2 h3 hl1 hl2 hd1 hd2).mono fun _ _ h => ⟨h.1.ret, h.2⟩
theorem rd_int (w : World) (s W B D : ByteArray) (M fb : Bool) (k : Nat) (hs : s.size ≤ 1000000) (HC : CutR s W B D false M true fb k)
 (hl1 : ¬ 4000 < D.size) (hd1 : allDig D.data.toList) :
 Calls Tryz.prog 77 #[.string s] w fun e w' => RetR 0 M (bN D) 1 e w' ∧ Below w.heap.size w w' :=
 (rd_intF w s W B D M fb k hs HC hl1 hd1).mono fun _ _ h => ⟨h.1.ret, h.2⟩
theorem r2_Read0 (w : World) (s : ByteArray) (hs : s.size ≤ 1000000) :
 Calls Tryz.prog 77 #[.string s] w fun e w' => RetR (qE s) (iM (cW s)) (bN (iD (cW s))) (bN (qD s)) e w' ∧ Below w.heap.size w w' := by
 have HC := cutR_of s (by omega)
 by_cases hq : qB s = true
 ·have hi := qB_whole hq
  rw [hi] at HC
  have hdD := fB_dig (iB_form hi)
  have hcS : cS s = false ∨ (cS s = true ∧ ¬ iD (cW s) = ⟨#[48]⟩ ∧ ¬ cB s = ⟨#[48]⟩ ∧ ¬ cB s = ⟨#[49]⟩ ∧ fB (cB s) = true) := by
   have hq' := hq
   unfold qB at hq'
   simp only [Bool.and_eq_true, Bool.or_eq_true, Bool.not_eq_true', decide_eq_true_eq] at hq'
   rcases hq'.2 with h | h
   ·exact .inl h
   ·cases hc : cS s
    ·exact .inl rfl
    ·exact .inr ⟨rfl, h.1.1.1, h.1.2, h.2, h.1.1.2⟩
  by_cases hl : qL s = true
  ·have e : qE s = 5 := by simp [qE, hq, hl]
   rw [e]
   unfold qL at hl
   simp only [Bool.or_eq_true, decide_eq_true_eq] at hl
   refine (rd_long w s _ _ _ _ _ _ _ (by omega) HC hcS ?_).mono ?_
   ·by_cases h4 : 4000 < (iD (cW s)).size
    ·exact .inl h4
    ·refine .inr ⟨h4, ?_⟩
     rcases hcS with hc | ⟨hc, -⟩
     ·rw [qD_false hc] at hl
      exact absurd (hl.resolve_left h4) (by decide)
     ·rw [qD_true hc] at hl
      exact ⟨hc, hl.resolve_left h4⟩
   ·rintro e w' ⟨rfl, hb⟩
    exact ⟨RetR.err (by decide), hb⟩
  ·have hl' : qL s = false := by simpa using hl
   have hl1 : ¬ 4000 < (iD (cW s)).size ∧ ¬ 4000 < (qD s).size := by
    unfold qL at hl'
    simpa using hl'
   rcases hcS with hc | ⟨hc, h1, h2, h3, h4⟩
   ·rw [hc] at HC
    have e : qE s = 0 := by simp [qE, hq, hl', qG, hc]
    rw [e, qD_false hc]
    exact rd_int w s _ _ _ _ _ _ hs HC hl1.1 hdD
   ·rw [hc, h4] at HC
    have hl2 := hl1.2
    rw [qD_true hc] at hl2
    have e : qE s = if Nat.gcd (bN (iD (cW s))) (bN (cB s)) = 1 then 0 else 3 := by
     simp only [qE, hq, hl', qG, hc, qD_true hc]
     by_cases hg : Nat.gcd (bN (iD (cW s))) (bN (cB s)) = 1 <;> simp [hg]
    rw [e, qD_true hc]
    exact rd_frac w s _ _ _ _ _ hs HC h1 h2 h3 hl1.1 hl2 hdD (fB_dig h4)
 ·have hq' : qB s = false := by simpa using hq
  have e : qE s = 3 := by simp [qE, hq']
  rw [e]
  refine (rd_bad w s _ _ _ _ _ _ _ _ (by omega) HC hq').mono ?_
  rintro e w' ⟨rfl, hb⟩
  exact ⟨RetR.err (by decide), hb⟩
theorem iD_size_ge (s : ByteArray) : s.size ≤ (iD s).size + 1 := by
 have e : s.data.toList.length = s.size := Array.length_toList
 unfold iD Lib.trimPrefix
 split <;> simp only [ByteArray.size, List.size_toArray, List.length_drop] <;> (simp only [ByteArray.size] at e; first | (simp only [List.length_cons, List.length_nil]; omega) | omega)
theorem q_short {s : ByteArray} (h : qL s = false) : s.size ≤ 8002 := by
 have e : s.data.toList.length = s.size := Array.length_toList
 have h' : ¬ 4000 < (iD (cW s)).size ∧ ¬ 4000 < (qD s).size := by
  unfold qL at h
  simpa using h
 have h1 := iD_size_ge (cW s)
 rcases sl_cases s.data.toList with hn | ⟨A, B, hA, es⟩
 ·have hc := cut_none hn
  have hw : (cW s).size = s.size := by
   rw [← e]
   unfold cW
   rw [hc]
   exact List.size_toArray ..
  omega
 ·have hc := cut_at (r := B) hA
  have hw : (cW s).size = A.length := by
   unfold cW
   rw [es, hc]
   exact List.size_toArray ..
  have hs : cS s = true := by unfold cS; rw [es, hc]
  have hb : (cB s).size = B.length := by
   unfold cB
   rw [es, hc]
   exact List.size_toArray ..
  rw [qD_true hs, hb] at h'
  rw [es] at e
  simp only [List.length_append, List.length_cons] at e
  omega
theorem r2_ReadX (w : World) (s : ByteArray) (hs : s.size ≤ 9223372036854775807) (hl : 1000000 < s.size) :
 Calls Tryz.prog 77 #[.string s] w fun e w' => e = .returned (.tuple #[.agg #[.bool false, .slice none 0 0, .slice none 0 0], .int .i64 (qE s)]) ∧ Below w.heap.size w w' := by
 have HC := cutR_of s hs
 by_cases hq : qB s = true
 ·have hi := qB_whole hq
  rw [hi] at HC
  have hcS : cS s = false ∨ (cS s = true ∧ ¬ iD (cW s) = ⟨#[48]⟩ ∧ ¬ cB s = ⟨#[48]⟩ ∧ ¬ cB s = ⟨#[49]⟩ ∧ fB (cB s) = true) := by
   have hq' := hq
   unfold qB at hq'
   simp only [Bool.and_eq_true, Bool.or_eq_true, Bool.not_eq_true', decide_eq_true_eq] at hq'
   rcases hq'.2 with h | h
   ·exact .inl h
   ·cases hc : cS s
    ·exact .inl rfl
    ·exact .inr ⟨rfl, h.1.1.1, h.1.2, h.2, h.1.1.2⟩
  by_cases hl : qL s = true
  ·have e : qE s = 5 := by simp [qE, hq, hl]
   rw [e]
   unfold qL at hl
   simp only [Bool.or_eq_true, decide_eq_true_eq] at hl
   refine (rd_long w s _ _ _ _ _ _ _ hs HC hcS ?_)
   by_cases h4 : 4000 < (iD (cW s)).size
   ·exact .inl h4
   ·refine .inr ⟨h4, ?_⟩
    rcases hcS with hc | ⟨hc, -⟩
    ·rw [qD_false hc] at hl
     exact absurd (hl.resolve_left h4) (by decide)
    ·rw [qD_true hc] at hl
     exact ⟨hc, hl.resolve_left h4⟩
  ·exact absurd (q_short (by simpa using hl)) (by omega)
 ·have hq' : qB s = false := by simpa using hq
  have e : qE s = 3 := by simp [qE, hq']
  rw [e]
  exact rd_bad w s _ _ _ _ _ _ _ _ hs HC hq'
def RetQE (s : ByteArray) (e : Ending) (w' : World) : Prop := ∃ v, e = .returned (.tuple #[v, .int .i64 (qE s)]) ∧ (qE s = 0 → IsQ .i64 w' v (vQ s)) ∧ (qE s ≠ 0 → v = .agg #[.bool false, .slice none 0 0, .slice none 0 0])
theorem r2_Read (w : World) (s : ByteArray) (hs : s.size ≤ 1000000) :
 Calls Tryz.prog 77 #[.string s] w fun e w' => RetQE s e w' ∧ Below w.heap.size w w' := by
 refine (r2_Read0 w s hs).mono ?_
 rintro e w' ⟨⟨v, rfl, h1, h2⟩, hb⟩
 refine ⟨⟨v, rfl, fun h => ?_, h2⟩, hb⟩
 obtain ⟨N, D, rfl, hN, hD⟩ := h1 h
 obtain ⟨e1, e2, e3⟩ := vQ_ok h
 exact ⟨N, D, by rw [e1], by rw [e2]; exact hN, by rw [e3]; exact hD⟩
def WrKey (m : Bool) (B1 B2 T : ByteArray) (x : Int) : Prop :=
 (4000 < B1.size ∧ T = ⟨#[]⟩ ∧ x = 5) ∨ (B1.size ≤ 4000 ∧ 4000 < B2.size ∧ T = ⟨#[]⟩ ∧ x = 5) ∨
 (B1.size ≤ 4000 ∧ B2.size ≤ 4000 ∧ x = 0 ∧ ((m = false ∧ B2 = ⟨#[49]⟩ ∧ T = B1) ∨ (m = true ∧ B2 = ⟨#[49]⟩ ∧ T = ⟨#[45]⟩ ++ B1) ∨ (m = false ∧ ¬ B2 = ⟨#[49]⟩ ∧ T = B1 ++ ⟨#[47]⟩ ++ B2) ∨ (m = true ∧ ¬ B2 = ⟨#[49]⟩ ∧ T = ⟨#[45]⟩ ++ B1 ++ ⟨#[47]⟩ ++ B2)))
theorem r2_Write_walk (w : World) (m : Bool) (N D : Value) (n d : Nat) (B1 B2 T : ByteArray) (x : Int) (hn : IsN .i64 w N n) (hd : IsN .i64 w D d) (hln : (limbs n).length ≤ 1000000) (hld : (limbs d).length ≤ 1000000)
 (e1 : numB n = B1) (e2 : numB d = B2) (key : WrKey m B1 B2 T x) :
 Calls Tryz.prog 57 #[.agg #[.bool m, N, D]] w fun e w' => e = .returned (.tuple #[.string T, .int .i64 x]) ∧ Below w.heap.size w w' := by
 have HN := hid hn; have HD := hid hd; have LN := hid hln; have LD := hid hld; have E1 := hid e1; have E2 := hid e2
 obtain ⟨a1, c1, rfl, _⟩ := hn.openI
 obtain ⟨a2, c2, rfl, _⟩ := hd.openI
 obtain ⟨k1, hk1⟩ : ∃ k, (limbs n).length = k := ⟨_, rfl⟩
 obtain ⟨k2, hk2⟩ : ∃ k, (limbs d).length = k := ⟨_, rfl⟩
 rw [hk1] at HN ⊢
 rw [hk2] at HD ⊢
 clear hn hd hln hld e1 e2 hk1 hk2
 unfold WrKey at key
 rcases key with ⟨h1, rfl, rfl⟩ | ⟨h1, h2, rfl, rfl⟩ | ⟨h1, h2, rfl, ⟨rfl, rfl, rfl⟩ | ⟨rfl, rfl, rfl⟩ | ⟨rfl, h3, rfl⟩ | ⟨rfl, h3, rfl⟩⟩
 ·have q0 : decide ((4000 : Int) < (B1.size : Int)) = true := by simp; omega
  clear h1
  go_enter Tryz.func57, Tryz.ntmps57
  go_wp2_with fail
  obtain ⟨W, hW⟩ : ∃ W, w.alloc (.cells #[.bool m, .slice a1 k1 c1, .slice a2 k2 c2] 79) = W := ⟨_, rfl⟩
  rw [hW]
  have X0 : Below w.heap.size w W := by rw [← hW]; exact (Below.refl _ _).alloc (Nat.le_refl _) _
  have Y0 : Blk W w.heap.size #[.bool m, .slice a1 k1 c1, .slice a2 k2 c2] 79 := by rw [← hW]; exact Blk.new w _ _
  have K : Hid (∀ w', Below W.heap.size W w' → w'.cell? ⟨w.heap.size, 0, none⟩ = some (.bool m) ∧ w'.cell? ⟨w.heap.size, 1, none⟩ = some (.slice a1 k1 c1) ∧ w'.cell? ⟨w.heap.size, 2, none⟩ = some (.slice a2 k2 c2)) :=
   fun w' hb => ⟨(Y0.call hb).cell 0, (Y0.call hb).cell 1, (Y0.call hb).cell 2⟩
  have HX0 := hid X0
  obtain ⟨k0, k1', k2'⟩ := K W (Below.refl _ _)
  have XN := hid (HN.out.call HX0.out); have XD := hid (HD.out.call HX0.out)
  clear Y0 X0 hW
  go_region_held3 (fun w' => w'.cell? ⟨w.heap.size, 0, none⟩ = some (.bool m) ∧ w'.cell? ⟨w.heap.size, 1, none⟩ = some (.slice a1 k1 c1) ∧ w'.cell? ⟨w.heap.size, 2, none⟩ = some (.slice a2 k2 c2))
   (first
    | exact K.out _ (Below.refl _ _).drew
    | exact K.out _ bb2.out
    | exact K.out _ bb1.out)
   (first
    | (go_at_call_of 76 (Value.slice a1 k1 c1); refine (r1_Write _ _ n (XN.out.call (by first | exact bb2.out | exact (Below.refl _ _).drew)) LN.out).mono ?_; rintro e w1 ⟨rfl, hb1⟩; rw [numV_eq, E1.out]; have bb1 := hid (bnext (by first | exact bb2.out | exact (Below.refl _ _).drew) hb1))
    | (go_at_call_of 76 (Value.slice a2 k2 c2); refine (r1_Write _ _ d (XD.out.call (by first | exact bb1.out | exact (Below.refl _ _).drew)) LD.out).mono ?_; rintro e w2 ⟨rfl, hb2⟩; rw [numV_eq, E2.out]; have bb2 := hid (bnext (by first | exact bb1.out | exact (Below.refl _ _).drew) hb2)))
  go_wp2_with fail
  go_ret2
  exact ⟨rfl, bnext HX0.out bb2.out⟩
 ·have q0 : decide ((4000 : Int) < (B1.size : Int)) = false := by simp; omega
  have q1 : decide ((4000 : Int) < (B2.size : Int)) = true := by simp; omega
  clear h1 h2
  go_enter Tryz.func57, Tryz.ntmps57
  go_wp2_with fail
  obtain ⟨W, hW⟩ : ∃ W, w.alloc (.cells #[.bool m, .slice a1 k1 c1, .slice a2 k2 c2] 79) = W := ⟨_, rfl⟩
  rw [hW]
  have X0 : Below w.heap.size w W := by rw [← hW]; exact (Below.refl _ _).alloc (Nat.le_refl _) _
  have Y0 : Blk W w.heap.size #[.bool m, .slice a1 k1 c1, .slice a2 k2 c2] 79 := by rw [← hW]; exact Blk.new w _ _
  have K : Hid (∀ w', Below W.heap.size W w' → w'.cell? ⟨w.heap.size, 0, none⟩ = some (.bool m) ∧ w'.cell? ⟨w.heap.size, 1, none⟩ = some (.slice a1 k1 c1) ∧ w'.cell? ⟨w.heap.size, 2, none⟩ = some (.slice a2 k2 c2)) :=
   fun w' hb => ⟨(Y0.call hb).cell 0, (Y0.call hb).cell 1, (Y0.call hb).cell 2⟩
  have HX0 := hid X0
  obtain ⟨k0, k1', k2'⟩ := K W (Below.refl _ _)
  have XN := hid (HN.out.call HX0.out); have XD := hid (HD.out.call HX0.out)
  clear Y0 X0 hW
  go_region_held3 (fun w' => w'.cell? ⟨w.heap.size, 0, none⟩ = some (.bool m) ∧ w'.cell? ⟨w.heap.size, 1, none⟩ = some (.slice a1 k1 c1) ∧ w'.cell? ⟨w.heap.size, 2, none⟩ = some (.slice a2 k2 c2))
   (first
    | exact K.out _ (Below.refl _ _).drew
    | exact K.out _ bb2.out
    | exact K.out _ bb1.out)
   (first
    | (go_at_call_of 76 (Value.slice a1 k1 c1); refine (r1_Write _ _ n (XN.out.call (by first | exact bb2.out | exact (Below.refl _ _).drew)) LN.out).mono ?_; rintro e w1 ⟨rfl, hb1⟩; rw [numV_eq, E1.out]; have bb1 := hid (bnext (by first | exact bb2.out | exact (Below.refl _ _).drew) hb1))
    | (go_at_call_of 76 (Value.slice a2 k2 c2); refine (r1_Write _ _ d (XD.out.call (by first | exact bb1.out | exact (Below.refl _ _).drew)) LD.out).mono ?_; rintro e w2 ⟨rfl, hb2⟩; rw [numV_eq, E2.out]; have bb2 := hid (bnext (by first | exact bb1.out | exact (Below.refl _ _).drew) hb2)))
  go_wp2_with fail
  go_ret2
  exact ⟨rfl, bnext HX0.out bb2.out⟩
 ·have q0 : decide ((4000 : Int) < (T.size : Int)) = false := by simp; omega
  clear h2
  go_enter Tryz.func57, Tryz.ntmps57
  go_wp2_with fail
  obtain ⟨W, hW⟩ : ∃ W, w.alloc (.cells #[.bool false, .slice a1 k1 c1, .slice a2 k2 c2] 79) = W := ⟨_, rfl⟩
  rw [hW]
  have X0 : Below w.heap.size w W := by rw [← hW]; exact (Below.refl _ _).alloc (Nat.le_refl _) _
  have Y0 : Blk W w.heap.size #[.bool false, .slice a1 k1 c1, .slice a2 k2 c2] 79 := by rw [← hW]; exact Blk.new w _ _
  have K : Hid (∀ w', Below W.heap.size W w' → w'.cell? ⟨w.heap.size, 0, none⟩ = some (.bool false) ∧ w'.cell? ⟨w.heap.size, 1, none⟩ = some (.slice a1 k1 c1) ∧ w'.cell? ⟨w.heap.size, 2, none⟩ = some (.slice a2 k2 c2)) :=
   fun w' hb => ⟨(Y0.call hb).cell 0, (Y0.call hb).cell 1, (Y0.call hb).cell 2⟩
  have HX0 := hid X0
  obtain ⟨k0, k1', k2'⟩ := K W (Below.refl _ _)
  have XN := hid (HN.out.call HX0.out); have XD := hid (HD.out.call HX0.out)
  clear Y0 X0 hW
  go_region_held3 (fun w' => w'.cell? ⟨w.heap.size, 0, none⟩ = some (.bool false) ∧ w'.cell? ⟨w.heap.size, 1, none⟩ = some (.slice a1 k1 c1) ∧ w'.cell? ⟨w.heap.size, 2, none⟩ = some (.slice a2 k2 c2))
   (first
    | exact K.out _ (Below.refl _ _).drew
    | exact K.out _ bb2.out
    | exact K.out _ bb1.out)
   (first
    | (go_at_call_of 76 (Value.slice a1 k1 c1); refine (r1_Write _ _ n (XN.out.call (by first | exact bb2.out | exact (Below.refl _ _).drew)) LN.out).mono ?_; rintro e w1 ⟨rfl, hb1⟩; rw [numV_eq, E1.out]; have bb1 := hid (bnext (by first | exact bb2.out | exact (Below.refl _ _).drew) hb1))
    | (go_at_call_of 76 (Value.slice a2 k2 c2); refine (r1_Write _ _ d (XD.out.call (by first | exact bb1.out | exact (Below.refl _ _).drew)) LD.out).mono ?_; rintro e w2 ⟨rfl, hb2⟩; rw [numV_eq, E2.out]; have bb2 := hid (bnext (by first | exact bb1.out | exact (Below.refl _ _).drew) hb2)))
  go_wp2_with fail
  go_ret2
  exact ⟨rfl, bnext HX0.out bb2.out⟩
 ·have q0 : decide ((4000 : Int) < (B1.size : Int)) = false := by simp; omega
  clear h2
  go_enter Tryz.func57, Tryz.ntmps57
  go_wp2_with fail
  obtain ⟨W, hW⟩ : ∃ W, w.alloc (.cells #[.bool true, .slice a1 k1 c1, .slice a2 k2 c2] 79) = W := ⟨_, rfl⟩
  rw [hW]
  have X0 : Below w.heap.size w W := by rw [← hW]; exact (Below.refl _ _).alloc (Nat.le_refl _) _
  have Y0 : Blk W w.heap.size #[.bool true, .slice a1 k1 c1, .slice a2 k2 c2] 79 := by rw [← hW]; exact Blk.new w _ _
  have K : Hid (∀ w', Below W.heap.size W w' → w'.cell? ⟨w.heap.size, 0, none⟩ = some (.bool true) ∧ w'.cell? ⟨w.heap.size, 1, none⟩ = some (.slice a1 k1 c1) ∧ w'.cell? ⟨w.heap.size, 2, none⟩ = some (.slice a2 k2 c2)) :=
   fun w' hb => ⟨(Y0.call hb).cell 0, (Y0.call hb).cell 1, (Y0.call hb).cell 2⟩
  have HX0 := hid X0
  obtain ⟨k0, k1', k2'⟩ := K W (Below.refl _ _)
  have XN := hid (HN.out.call HX0.out); have XD := hid (HD.out.call HX0.out)
  clear Y0 X0 hW
  go_region_held3 (fun w' => w'.cell? ⟨w.heap.size, 0, none⟩ = some (.bool true) ∧ w'.cell? ⟨w.heap.size, 1, none⟩ = some (.slice a1 k1 c1) ∧ w'.cell? ⟨w.heap.size, 2, none⟩ = some (.slice a2 k2 c2))
   (first
    | exact K.out _ (Below.refl _ _).drew
    | exact K.out _ bb2.out
    | exact K.out _ bb1.out)
   (first
    | (go_at_call_of 76 (Value.slice a1 k1 c1); refine (r1_Write _ _ n (XN.out.call (by first | exact bb2.out | exact (Below.refl _ _).drew)) LN.out).mono ?_; rintro e w1 ⟨rfl, hb1⟩; rw [numV_eq, E1.out]; have bb1 := hid (bnext (by first | exact bb2.out | exact (Below.refl _ _).drew) hb1))
    | (go_at_call_of 76 (Value.slice a2 k2 c2); refine (r1_Write _ _ d (XD.out.call (by first | exact bb1.out | exact (Below.refl _ _).drew)) LD.out).mono ?_; rintro e w2 ⟨rfl, hb2⟩; rw [numV_eq, E2.out]; have bb2 := hid (bnext (by first | exact bb1.out | exact (Below.refl _ _).drew) hb2)))
  go_wp2_with fail
  go_ret2
  exact ⟨rfl, bnext HX0.out bb2.out⟩
 ·have q0 : decide ((4000 : Int) < (B1.size : Int)) = false := by simp; omega
  have q1 : decide ((4000 : Int) < (B2.size : Int)) = false := by simp; omega
  have i3 := ne_lit (l := [49]) h3
  go_enter Tryz.func57, Tryz.ntmps57
  go_wp2_with fail
  obtain ⟨W, hW⟩ : ∃ W, w.alloc (.cells #[.bool false, .slice a1 k1 c1, .slice a2 k2 c2] 79) = W := ⟨_, rfl⟩
  rw [hW]
  have X0 : Below w.heap.size w W := by rw [← hW]; exact (Below.refl _ _).alloc (Nat.le_refl _) _
  have Y0 : Blk W w.heap.size #[.bool false, .slice a1 k1 c1, .slice a2 k2 c2] 79 := by rw [← hW]; exact Blk.new w _ _
  have K : Hid (∀ w', Below W.heap.size W w' → w'.cell? ⟨w.heap.size, 0, none⟩ = some (.bool false) ∧ w'.cell? ⟨w.heap.size, 1, none⟩ = some (.slice a1 k1 c1) ∧ w'.cell? ⟨w.heap.size, 2, none⟩ = some (.slice a2 k2 c2)) :=
   fun w' hb => ⟨(Y0.call hb).cell 0, (Y0.call hb).cell 1, (Y0.call hb).cell 2⟩
  have HX0 := hid X0
  obtain ⟨k0, k1', k2'⟩ := K W (Below.refl _ _)
  have XN := hid (HN.out.call HX0.out); have XD := hid (HD.out.call HX0.out)
  clear Y0 X0 hW
  go_region_held3 (fun w' => w'.cell? ⟨w.heap.size, 0, none⟩ = some (.bool false) ∧ w'.cell? ⟨w.heap.size, 1, none⟩ = some (.slice a1 k1 c1) ∧ w'.cell? ⟨w.heap.size, 2, none⟩ = some (.slice a2 k2 c2))
   (first
    | exact K.out _ (Below.refl _ _).drew
    | exact K.out _ bb2.out
    | exact K.out _ bb1.out)
   (first
    | (go_at_call_of 76 (Value.slice a1 k1 c1); refine (r1_Write _ _ n (XN.out.call (by first | exact bb2.out | exact (Below.refl _ _).drew)) LN.out).mono ?_; rintro e w1 ⟨rfl, hb1⟩; rw [numV_eq, E1.out]; have bb1 := hid (bnext (by first | exact bb2.out | exact (Below.refl _ _).drew) hb1))
    | (go_at_call_of 76 (Value.slice a2 k2 c2); refine (r1_Write _ _ d (XD.out.call (by first | exact bb1.out | exact (Below.refl _ _).drew)) LD.out).mono ?_; rintro e w2 ⟨rfl, hb2⟩; rw [numV_eq, E2.out]; have bb2 := hid (bnext (by first | exact bb1.out | exact (Below.refl _ _).drew) hb2)))
  go_wp2_with fail
  go_ret2
  exact ⟨rfl, bnext HX0.out bb2.out⟩
 ·have q0 : decide ((4000 : Int) < (B1.size : Int)) = false := by simp; omega
  have q1 : decide ((4000 : Int) < (B2.size : Int)) = false := by simp; omega
  have i3 := ne_lit (l := [49]) h3
  go_enter Tryz.func57, Tryz.ntmps57
  go_wp2_with fail
  obtain ⟨W, hW⟩ : ∃ W, w.alloc (.cells #[.bool true, .slice a1 k1 c1, .slice a2 k2 c2] 79) = W := ⟨_, rfl⟩
  rw [hW]
  have X0 : Below w.heap.size w W := by rw [← hW]; exact (Below.refl _ _).alloc (Nat.le_refl _) _
  have Y0 : Blk W w.heap.size #[.bool true, .slice a1 k1 c1, .slice a2 k2 c2] 79 := by rw [← hW]; exact Blk.new w _ _
  have K : Hid (∀ w', Below W.heap.size W w' → w'.cell? ⟨w.heap.size, 0, none⟩ = some (.bool true) ∧ w'.cell? ⟨w.heap.size, 1, none⟩ = some (.slice a1 k1 c1) ∧ w'.cell? ⟨w.heap.size, 2, none⟩ = some (.slice a2 k2 c2)) :=
   fun w' hb => ⟨(Y0.call hb).cell 0, (Y0.call hb).cell 1, (Y0.call hb).cell 2⟩
  have HX0 := hid X0
  obtain ⟨k0, k1', k2'⟩ := K W (Below.refl _ _)
  have XN := hid (HN.out.call HX0.out); have XD := hid (HD.out.call HX0.out)
  clear Y0 X0 hW
  go_region_held3 (fun w' => w'.cell? ⟨w.heap.size, 0, none⟩ = some (.bool true) ∧ w'.cell? ⟨w.heap.size, 1, none⟩ = some (.slice a1 k1 c1) ∧ w'.cell? ⟨w.heap.size, 2, none⟩ = some (.slice a2 k2 c2))
   (first
    | exact K.out _ (Below.refl _ _).drew
    | exact K.out _ bb2.out
    | exact K.out _ bb1.out)
   (first
    | (go_at_call_of 76 (Value.slice a1 k1 c1); refine (r1_Write _ _ n (XN.out.call (by first | exact bb2.out | exact (Below.refl _ _).drew)) LN.out).mono ?_; rintro e w1 ⟨rfl, hb1⟩; rw [numV_eq, E1.out]; have bb1 := hid (bnext (by first | exact bb2.out | exact (Below.refl _ _).drew) hb1))
    | (go_at_call_of 76 (Value.slice a2 k2 c2); refine (r1_Write _ _ d (XD.out.call (by first | exact bb1.out | exact (Below.refl _ _).drew)) LD.out).mono ?_; rintro e w2 ⟨rfl, hb2⟩; rw [numV_eq, E2.out]; have bb2 := hid (bnext (by first | exact bb1.out | exact (Below.refl _ _).drew) hb2)))
  go_wp2_with fail
  go_ret2
  exact ⟨rfl, bnext HX0.out bb2.out⟩
theorem numB_is1 {d : Nat} : numB d = ⟨#[49]⟩ ↔ d = 1 := by
 constructor
 ·intro h
  rw [← numB_one] at h
  rcases Nat.decEq d 1 with h1 | h1
  ·exact absurd h (numB_ne h1)
  ·exact h1
 ·rintro rfl; exact numB_one
theorem r2_Write (w : World) (v : Value) (q : Rat) (h : IsQ .i64 w v q) (h1 : (limbs q.num.natAbs).length ≤ 1000000) (h2 : (limbs q.den).length ≤ 1000000) :
 Calls Tryz.prog 57 #[v] w fun e w' => e = .returned (.tuple #[.string (outB q), .int .i64 (outE q)]) ∧ Below w.heap.size w w' := by
 obtain ⟨N, D, rfl, hn, hd⟩ := h.ex
 refine r2_Write_walk w _ N D q.num.natAbs q.den (numB q.num.natAbs) (numB q.den) (outB q) (outE q) hn hd h1 h2 rfl rfl ?_
 unfold WrKey outB outE
 rw [numB_size, numB_size]
 by_cases o1 : 4000 < nDigits q.num.natAbs
 ·have ho : ovQ q := .inl o1
  rw [if_pos ho, if_pos ho]
  exact .inl ⟨o1, rfl, rfl⟩
 ·by_cases o2 : 4000 < nDigits q.den
  ·have ho : ovQ q := .inr o2
   rw [if_pos ho, if_pos ho]
   exact .inr (.inl ⟨by omega, o2, rfl, rfl⟩)
  ·have ho : ¬ ovQ q := fun h => h.elim o1 o2
   rw [if_neg ho, if_neg ho]
   refine .inr (.inr ⟨by omega, by omega, rfl, ?_⟩)
   unfold txQ
   rw [numB_is1]
   generalize decide (q.num < 0) = m
   by_cases hd1 : q.den = 1
   ·rw [hd1]
    cases m
    ·exact .inl ⟨rfl, rfl, ba_ext (by simp [txB, numB])⟩
    ·exact .inr (.inl ⟨rfl, rfl, ba_ext (by simp [txB, numB])⟩)
   ·cases m
    ·exact .inr (.inr (.inl ⟨rfl, hd1, ba_ext (by simp [txB, numB, hd1])⟩))
    ·exact .inr (.inr (.inr ⟨rfl, hd1, ba_ext (by simp [txB, numB, hd1])⟩))
end Go.Proofs.YtlimaehdmcnjaaaGreatDoor
namespace Go.Proofs.YtlimaehdmcnjaaaGreatDoor
open Go.RowKit
theorem neg_parts {q : Rat} {m : Bool} (hm : decide (q.num < 0) = m) : decide ((-q).num < 0) = (!m && decide (0 < q.num.natAbs)) ∧ (-q).num.natAbs = q.num.natAbs ∧ (-q).den = q.den := by
 refine ⟨?_, by rw [Rat.neg_num, Int.natAbs_neg], Rat.neg_den q⟩
 rw [Rat.neg_num, ← hm, Bool.eq_iff_iff]
 simp only [Bool.and_eq_true, Bool.not_eq_true', decide_eq_true_eq, decide_eq_false_iff_not]
 omega
theorem r2_Negative (w : World) (v : Value) (q : Rat) (h : IsQ .i64 w v q) :
 Calls Tryz.prog 59 #[v] w fun e w' => RetQ .i64 (-q) e w' ∧ Below w.heap.size w w' := by
 obtain ⟨N, D, rfl, hn, hd⟩ := h.ex
 obtain ⟨m, hm⟩ : ∃ m, decide (q.num < 0) = m := ⟨_, rfl⟩
 have HN := hid hn; have HD := hid hd; have HP := hid (neg_parts hm)
 rw [hm]
 obtain ⟨a1, c1, rfl, _⟩ := hn.openI
 obtain ⟨a2, c2, rfl, _⟩ := hd.openI
 clear hn hd hm h
 obtain ⟨l, hl⟩ : ∃ l, (limbs q.num.natAbs).length = l := ⟨_, rfl⟩
 have hz : decide (0 < l) = decide (0 < q.num.natAbs) := by
  have h1 : l = 0 ↔ q.num.natAbs = 0 := by rw [← hl, List.length_eq_zero_iff, limbs_nil]
  exact decide_eq_decide.2 (by omega)
 have HZ := hid hz; have HL := hid hl
 rw [hl]
 clear hz hl
 go_enter Tryz.func59, Tryz.ntmps59
 go_wp2_with fail
 all_goals
  obtain ⟨p1, p2, p3⟩ := HP.out
  rw [← HZ.out] at p1
  refine bodyPost_ret (v := .agg #[_, .slice a1 l c1, .slice a2 (limbs q.den).length c2]) (by simp [results, Tryz.results59, go_sem]; rfl) rfl ⟨⟨_, rfl, ⟨.slice a1 l c1, .slice a2 (limbs q.den).length c2, ?_, ?_, ?_⟩⟩, ?_⟩
  ·rw [p1]; clear HP HZ HL HN HD; simp_all
  ·have hh := HN.out
   rw [HL.out] at hh
   rw [p2]; exact hh.call (((Below.refl w.heap.size w).alloc (Nat.le_refl _) _).alloc (by simp) _)
  ·rw [p3]; exact HD.out.call (((Below.refl w.heap.size w).alloc (Nat.le_refl _) _).alloc (by simp) _)
  ·exact (((Below.refl w.heap.size w).alloc (Nat.le_refl _) _).alloc (by simp) _)
theorem r1_PlusF (w : World) (v u : Value) (a b : Nat) (ha : IsN .i64 w v a) (hb : IsN .i64 w u b) (hla : (limbs a).length ≤ 1000000) (hlb : (limbs b).length ≤ 1000000) :
 Calls Tryz.prog 72 #[v, u] w fun e w' => RetFr w.heap.size .i64 (a + b) e w' ∧ Below w.heap.size w w' := by
 obtain ⟨i0, hi, hz0, hz1, hz2⟩ := info_parts info_int
 obtain ⟨a1, c1, rfl, h1, h2, h3⟩ := ha.openI
 obtain ⟨a2, c2, rfl, k1, k2, k3⟩ := hb.openI
 have H3 := hid h3; have K3 := hid k3; clear h3 k3 ha hb
 obtain ⟨n, ea⟩ : ∃ n, (limbs a).length = n := ⟨_, rfl⟩
 obtain ⟨m, eb⟩ : ∃ m, (limbs b).length = m := ⟨_, rfl⟩
 rw [ea] at h1 hla ⊢
 rw [eb] at k1 hlb ⊢
 have HA := hid ea; have HB := hid eb
 clear ea eb
 go_enter Tryz.func72, Tryz.ntmps72
 go_wp2_with fail
 go_loopw [5, 6, 7] (fun o cc i wr => ∃ (s : List Nat) (c : Nat) (C : Int), i = .int .i64 s.length ∧ cc = .int .i64 C ∧ C = (c : Int) ∧ c ≤ 1 ∧ s.length ≤ 1000001 ∧ (s.length ≤ n ∨ s.length ≤ m ∨ c = 0) ∧ Hid (PlusI a b s c) ∧ Hid (wr.ownsRow w.heap.size 3 1 o s.length (ints .i64 s)) ∧ Hid (Below w.heap.size w wr))
  (fun _ _ i _ => 1000002 - (intOf i).toNat)
 case atStart => exact ⟨[], 0, 0, rfl, rfl, rfl, by omega, by simp, .inl (by simp), PlusI.start a b, World.ownsRow_nil _ _ _ _, Below.refl _ _⟩
 case round =>
  obtain ⟨s, c, C, rfl, rfl, hC, hc1, hs1, hs2, hP, hO, hB⟩ := hrel
  obtain ⟨ao, co, rfl⟩ := owns_ex hO.out
  by_cases hA : s.length < n
  ·obtain ⟨x, hx⟩ : ∃ x, (limbs a)[s.length]? = some x := ⟨_, List.getElem?_eq_getElem (by rw [HA.out]; exact hA)⟩
   obtain ⟨g, og, rfl, hg, hc⟩ := H3.out _ x hx
   have hc' := (hB.out.cell (p := ⟨g, og + s.length, none⟩) hg).trans hc
   have hxl := (sm_limbs a).get hx
   have HX := hid hx; clear hx hc
   by_cases hB' : s.length < m
   ·obtain ⟨y, hy⟩ : ∃ y, (limbs b)[s.length]? = some y := ⟨_, List.getElem?_eq_getElem (by rw [HB.out]; exact hB')⟩
    obtain ⟨g', og', rfl, hg', hd⟩ := K3.out _ y hy
    have hd' := (hB.out.cell (p := ⟨g', og' + s.length, none⟩) hg').trans hd
    have hyl := (sm_limbs b).get hy
    have HY := hid hy; clear hy hd
    rcases (show c = 0 ∨ c = 1 by omega) with rfl | rfl
    ·obtain rfl : C = 0 := by omega
     clear hC
     have HN := hid (hP.out.next (by rw [HA.out]; exact .inl hA))
     rw [getD_of HX.out, getD_of HY.out] at HN
     go_wp2_with (at_builtin; refine wpList_append_own _ rfl _ _ 77 rfl w.heap.size 3 i0 (.int .i64 0) 1 8 Tryz.underlying77 hi hz0 hz1 hz2 rfl (by decide) _ s.length _ rfl (hO.out.alloc _) ⟨wr.heap.size, 0, none⟩ 1 1 [.int .i64 ((↑x + ↑y : Int) % 1000000000)] rfl rfl (cell_one_new wr (.int .i64 ((↑x + ↑y : Int) % 1000000000)) 3) (by simp [Value.oneCell']) (by unfold maxLen; omega) (by omega) (by have := hB.out.size; simp; omega) ?_; intro v' w3 hown3 hgrow3 _; have HO3 := hid hown3; have HG3 := hid hgrow3; clear hown3 hgrow3)
     have hz : ((↑x + ↑y : Int) % 1000000000) = (((x + 0 + y) % 1000000000 : Nat) : Int) := by omega
     rw [hz] at HO3
     obtain ⟨n1, n2⟩ := own_next hO.out hB.out HO3.out HG3.out
     have N1 := hid n1; have N2 := hid n2; clear n1 n2 hz HO3 HG3
     obtain ⟨a3, k3, rfl⟩ := owns_ex N1.out
     go_wp2_with fail
     go_roundw
     case rel => exact ⟨s ++ [(x + 0 + y) % 1000000000], (x + 0 + y) / 1000000000, _, by simp, rfl, by omega, HN.out.c1, by simp <;> omega, by simp <;> omega, HN, N1, N2⟩
     case measure => simp [intOf] <;> omega
    ·obtain rfl : C = 1 := by omega
     clear hC
     have HN := hid (hP.out.next (by rw [HA.out]; exact .inl hA))
     rw [getD_of HX.out, getD_of HY.out] at HN
     go_wp2_with (at_builtin; refine wpList_append_own _ rfl _ _ 77 rfl w.heap.size 3 i0 (.int .i64 0) 1 8 Tryz.underlying77 hi hz0 hz1 hz2 rfl (by decide) _ s.length _ rfl (hO.out.alloc _) ⟨wr.heap.size, 0, none⟩ 1 1 [.int .i64 ((1 + ↑x + ↑y : Int) % 1000000000)] rfl rfl (cell_one_new wr (.int .i64 ((1 + ↑x + ↑y : Int) % 1000000000)) 3) (by simp [Value.oneCell']) (by unfold maxLen; omega) (by omega) (by have := hB.out.size; simp; omega) ?_; intro v' w3 hown3 hgrow3 _; have HO3 := hid hown3; have HG3 := hid hgrow3; clear hown3 hgrow3)
     have hz : ((1 + ↑x + ↑y : Int) % 1000000000) = (((x + 1 + y) % 1000000000 : Nat) : Int) := by omega
     rw [hz] at HO3
     obtain ⟨n1, n2⟩ := own_next hO.out hB.out HO3.out HG3.out
     have N1 := hid n1; have N2 := hid n2; clear n1 n2 hz HO3 HG3
     obtain ⟨a3, k3, rfl⟩ := owns_ex N1.out
     go_wp2_with fail
     go_roundw
     case rel => exact ⟨s ++ [(x + 1 + y) % 1000000000], (x + 1 + y) / 1000000000, _, by simp, rfl, by omega, HN.out.c1, by simp <;> omega, by simp <;> omega, HN, N1, N2⟩
     case measure => simp [intOf] <;> omega
   ·skip
    rcases (show c = 0 ∨ c = 1 by omega) with rfl | rfl
    ·obtain rfl : C = 0 := by omega
     clear hC
     have HN := hid (hP.out.next (by rw [HA.out]; exact .inl hA))
     rw [getD_of HX.out, getD_none (by rw [HB.out]; omega)] at HN
     go_wp2_with (at_builtin; refine wpList_append_own _ rfl _ _ 77 rfl w.heap.size 3 i0 (.int .i64 0) 1 8 Tryz.underlying77 hi hz0 hz1 hz2 rfl (by decide) _ s.length _ rfl (hO.out.alloc _) ⟨wr.heap.size, 0, none⟩ 1 1 [.int .i64 ((↑x : Int) % 1000000000)] rfl rfl (cell_one_new wr (.int .i64 ((↑x : Int) % 1000000000)) 3) (by simp [Value.oneCell']) (by unfold maxLen; omega) (by omega) (by have := hB.out.size; simp; omega) ?_; intro v' w3 hown3 hgrow3 _; have HO3 := hid hown3; have HG3 := hid hgrow3; clear hown3 hgrow3)
     have hz : ((↑x : Int) % 1000000000) = (((x + 0 + 0) % 1000000000 : Nat) : Int) := by omega
     rw [hz] at HO3
     obtain ⟨n1, n2⟩ := own_next hO.out hB.out HO3.out HG3.out
     have N1 := hid n1; have N2 := hid n2; clear n1 n2 hz HO3 HG3
     obtain ⟨a3, k3, rfl⟩ := owns_ex N1.out
     go_wp2_with fail
     go_roundw
     case rel => exact ⟨s ++ [(x + 0 + 0) % 1000000000], (x + 0 + 0) / 1000000000, _, by simp, rfl, by omega, HN.out.c1, by simp <;> omega, by simp <;> omega, HN, N1, N2⟩
     case measure => simp [intOf] <;> omega
    ·obtain rfl : C = 1 := by omega
     clear hC
     have HN := hid (hP.out.next (by rw [HA.out]; exact .inl hA))
     rw [getD_of HX.out, getD_none (by rw [HB.out]; omega)] at HN
     go_wp2_with (at_builtin; refine wpList_append_own _ rfl _ _ 77 rfl w.heap.size 3 i0 (.int .i64 0) 1 8 Tryz.underlying77 hi hz0 hz1 hz2 rfl (by decide) _ s.length _ rfl (hO.out.alloc _) ⟨wr.heap.size, 0, none⟩ 1 1 [.int .i64 ((1 + ↑x : Int) % 1000000000)] rfl rfl (cell_one_new wr (.int .i64 ((1 + ↑x : Int) % 1000000000)) 3) (by simp [Value.oneCell']) (by unfold maxLen; omega) (by omega) (by have := hB.out.size; simp; omega) ?_; intro v' w3 hown3 hgrow3 _; have HO3 := hid hown3; have HG3 := hid hgrow3; clear hown3 hgrow3)
     have hz : ((1 + ↑x : Int) % 1000000000) = (((x + 1 + 0) % 1000000000 : Nat) : Int) := by omega
     rw [hz] at HO3
     obtain ⟨n1, n2⟩ := own_next hO.out hB.out HO3.out HG3.out
     have N1 := hid n1; have N2 := hid n2; clear n1 n2 hz HO3 HG3
     obtain ⟨a3, k3, rfl⟩ := owns_ex N1.out
     go_wp2_with fail
     go_roundw
     case rel => exact ⟨s ++ [(x + 1 + 0) % 1000000000], (x + 1 + 0) / 1000000000, _, by simp, rfl, by omega, HN.out.c1, by simp <;> omega, by simp <;> omega, HN, N1, N2⟩
     case measure => simp [intOf] <;> omega
  ·skip
   by_cases hB' : s.length < m
   ·obtain ⟨y, hy⟩ : ∃ y, (limbs b)[s.length]? = some y := ⟨_, List.getElem?_eq_getElem (by rw [HB.out]; exact hB')⟩
    obtain ⟨g', og', rfl, hg', hd⟩ := K3.out _ y hy
    have hd' := (hB.out.cell (p := ⟨g', og' + s.length, none⟩) hg').trans hd
    have hyl := (sm_limbs b).get hy
    have HY := hid hy; clear hy hd
    rcases (show c = 0 ∨ c = 1 by omega) with rfl | rfl
    ·obtain rfl : C = 0 := by omega
     clear hC
     have HN := hid (hP.out.next (by rw [HB.out]; exact .inr (.inl hB')))
     rw [getD_none (by rw [HA.out]; omega), getD_of HY.out] at HN
     go_wp2_with (at_builtin; refine wpList_append_own _ rfl _ _ 77 rfl w.heap.size 3 i0 (.int .i64 0) 1 8 Tryz.underlying77 hi hz0 hz1 hz2 rfl (by decide) _ s.length _ rfl (hO.out.alloc _) ⟨wr.heap.size, 0, none⟩ 1 1 [.int .i64 ((↑y : Int) % 1000000000)] rfl rfl (cell_one_new wr (.int .i64 ((↑y : Int) % 1000000000)) 3) (by simp [Value.oneCell']) (by unfold maxLen; omega) (by omega) (by have := hB.out.size; simp; omega) ?_; intro v' w3 hown3 hgrow3 _; have HO3 := hid hown3; have HG3 := hid hgrow3; clear hown3 hgrow3)
     have hz : ((↑y : Int) % 1000000000) = (((0 + 0 + y) % 1000000000 : Nat) : Int) := by omega
     rw [hz] at HO3
     obtain ⟨n1, n2⟩ := own_next hO.out hB.out HO3.out HG3.out
     have N1 := hid n1; have N2 := hid n2; clear n1 n2 hz HO3 HG3
     obtain ⟨a3, k3, rfl⟩ := owns_ex N1.out
     go_wp2_with fail
     go_roundw
     case rel => exact ⟨s ++ [(0 + 0 + y) % 1000000000], (0 + 0 + y) / 1000000000, _, by simp, rfl, by omega, HN.out.c1, by simp <;> omega, by simp <;> omega, HN, N1, N2⟩
     case measure => simp [intOf] <;> omega
    ·obtain rfl : C = 1 := by omega
     clear hC
     have HN := hid (hP.out.next (by rw [HB.out]; exact .inr (.inl hB')))
     rw [getD_none (by rw [HA.out]; omega), getD_of HY.out] at HN
     go_wp2_with (at_builtin; refine wpList_append_own _ rfl _ _ 77 rfl w.heap.size 3 i0 (.int .i64 0) 1 8 Tryz.underlying77 hi hz0 hz1 hz2 rfl (by decide) _ s.length _ rfl (hO.out.alloc _) ⟨wr.heap.size, 0, none⟩ 1 1 [.int .i64 ((1 + ↑y : Int) % 1000000000)] rfl rfl (cell_one_new wr (.int .i64 ((1 + ↑y : Int) % 1000000000)) 3) (by simp [Value.oneCell']) (by unfold maxLen; omega) (by omega) (by have := hB.out.size; simp; omega) ?_; intro v' w3 hown3 hgrow3 _; have HO3 := hid hown3; have HG3 := hid hgrow3; clear hown3 hgrow3)
     have hz : ((1 + ↑y : Int) % 1000000000) = (((0 + 1 + y) % 1000000000 : Nat) : Int) := by omega
     rw [hz] at HO3
     obtain ⟨n1, n2⟩ := own_next hO.out hB.out HO3.out HG3.out
     have N1 := hid n1; have N2 := hid n2; clear n1 n2 hz HO3 HG3
     obtain ⟨a3, k3, rfl⟩ := owns_ex N1.out
     go_wp2_with fail
     go_roundw
     case rel => exact ⟨s ++ [(0 + 1 + y) % 1000000000], (0 + 1 + y) / 1000000000, _, by simp, rfl, by omega, HN.out.c1, by simp <;> omega, by simp <;> omega, HN, N1, N2⟩
     case measure => simp [intOf] <;> omega
   ·skip
    rcases (show c = 0 ∨ c = 1 by omega) with rfl | rfl
    ·obtain rfl : C = 0 := by omega
     clear hC
     have hs := hid (hP.out.done (by rw [HA.out]; exact hA) (by rw [HB.out]; exact hB') rfl)
     go_wp2_with fail
     go_ret
     exact ⟨⟨_, rfl, owns_isN hO.out hs.out, fun g hg => (hO.out.lt g hg).1⟩, hB.out⟩
    ·obtain rfl : C = 1 := by omega
     clear hC
     have HN := hid (hP.out.next (by exact .inr (.inr (by omega))))
     rw [getD_none (by rw [HA.out]; omega), getD_none (by rw [HB.out]; omega)] at HN
     go_wp2_with (at_builtin; refine wpList_append_own _ rfl _ _ 77 rfl w.heap.size 3 i0 (.int .i64 0) 1 8 Tryz.underlying77 hi hz0 hz1 hz2 rfl (by decide) _ s.length _ rfl (hO.out.alloc _) ⟨wr.heap.size, 0, none⟩ 1 1 [.int .i64 (1)] rfl rfl (cell_one_new wr (.int .i64 (1)) 3) (by simp [Value.oneCell']) (by unfold maxLen; omega) (by omega) (by have := hB.out.size; simp; omega) ?_; intro v' w3 hown3 hgrow3 _; have HO3 := hid hown3; have HG3 := hid hgrow3; clear hown3 hgrow3)
     have hz : (1) = (((0 + 1 + 0) % 1000000000 : Nat) : Int) := by omega
     rw [hz] at HO3
     obtain ⟨n1, n2⟩ := own_next hO.out hB.out HO3.out HG3.out
     have N1 := hid n1; have N2 := hid n2; clear n1 n2 hz HO3 HG3
     obtain ⟨a3, k3, rfl⟩ := owns_ex N1.out
     go_wp2_with fail
     go_roundw
     case rel => exact ⟨s ++ [(0 + 1 + 0) % 1000000000], (0 + 1 + 0) / 1000000000, _, by simp, rfl, by omega, HN.out.c1, by simp <;> omega, by simp <;> omega, HN, N1, N2⟩
     case measure => simp [intOf] <;> omega
theorem r1_Plus (w : World) (v u : Value) (a b : Nat) (ha : IsN .i64 w v a) (hb : IsN .i64 w u b) (hla : (limbs a).length ≤ 1000000) (hlb : (limbs b).length ≤ 1000000) :
 Calls Tryz.prog 72 #[v, u] w fun e w' => RetN .i64 (a + b) e w' ∧ Below w.heap.size w w' :=
 (r1_PlusF w v u a b ha hb hla hlb).mono fun _ _ h => ⟨h.1.ret, h.2⟩
theorem r1_MinusF (w : World) (v u : Value) (a b : Nat) (ha : IsN .i64 w v a) (hb : IsN .i64 w u b) (hle : b ≤ a) (hla : (limbs a).length ≤ 1000000) :
 Calls Tryz.prog 112 #[v, u] w fun e w' => RetFr w.heap.size .i64 (a - b) e w' ∧ Below w.heap.size w w' := by
 obtain ⟨i0, hi, hz0, hz1, hz2⟩ := info_parts info_int
 obtain ⟨a1, c1, rfl, h1, h2, h3⟩ := ha.openI
 obtain ⟨a2, c2, rfl, k1, k2, k3⟩ := hb.openI
 have H3 := hid h3; have K3 := hid k3; clear h3 k3 ha hb
 have hmn := limbs_length_mono hle
 obtain ⟨n, ea⟩ : ∃ n, (limbs a).length = n := ⟨_, rfl⟩
 obtain ⟨m, eb⟩ : ∃ m, (limbs b).length = m := ⟨_, rfl⟩
 rw [ea] at h1 hla hmn ⊢
 rw [eb] at k1 hmn ⊢
 have HA := hid ea; have HB := hid eb; have HL := hid hle
 clear ea eb hle
 go_enter Tryz.func112, Tryz.ntmps112
 go_wp2_with fail
 go_loopw [5, 6, 7, 8] (fun o cc i nn wr => ∃ (s : List Nat) (c : Nat) (C : Int), i = .int .i64 s.length ∧ cc = .int .i64 C ∧ C = (c : Int) ∧ c ≤ 1 ∧ s.length ≤ n ∧ Hid (MinusI a b s c) ∧ Hid (wr.ownsRow w.heap.size 3 1 o s.length (ints .i64 s)) ∧ Hid (Below w.heap.size w wr))
  (fun _ _ i _ _ => n - (intOf i).toNat)
 case atStart => exact ⟨[], 0, 0, rfl, rfl, rfl, by omega, by simp, MinusI.start a b, World.ownsRow_nil _ _ _ _, Below.refl _ _⟩
 case round =>
  obtain ⟨s, c, C, rfl, rfl, hC, hc1, hs1, hP, hO, hB⟩ := hrel
  obtain ⟨ao, co, rfl⟩ := owns_ex hO.out
  by_cases hA : s.length < n
  ·obtain ⟨x, hx⟩ : ∃ x, (limbs a)[s.length]? = some x := ⟨_, List.getElem?_eq_getElem (by rw [HA.out]; exact hA)⟩
   obtain ⟨g, og, rfl, hg, hc⟩ := H3.out _ x hx
   have hc' := (hB.out.cell (p := ⟨g, og + s.length, none⟩) hg).trans hc
   have hxl := (sm_limbs a).get hx
   have HX := hid hx; clear hx hc
   by_cases hB' : s.length < m
   ·obtain ⟨y, hy⟩ : ∃ y, (limbs b)[s.length]? = some y := ⟨_, List.getElem?_eq_getElem (by rw [HB.out]; exact hB')⟩
    obtain ⟨g', og', rfl, hg', hd⟩ := K3.out _ y hy
    have hd' := (hB.out.cell (p := ⟨g', og' + s.length, none⟩) hg').trans hd
    have hyl := (sm_limbs b).get hy
    have HY := hid hy; clear hy hd
    rcases (show c = 0 ∨ c = 1 by omega) with rfl | rfl
    ·obtain rfl : C = 0 := by omega
     clear hC
     by_cases hneg : x < y + 0
     ·obtain ⟨z, hz0', hz1', hzI⟩ : ∃ z : Nat, x + 1000000000 * 1 = z + 0 + y ∧ z < 1000000000 ∧ Hid ((↑x - ↑y + 1000000000 : Int) = (z : Int)) := ⟨((↑x - ↑y + 1000000000 : Int)).toNat, by omega, by omega, by rw [Hid]; omega⟩
      have HN := hid (hP.out.next (z := z) (c' := 1) (by rw [getD_of HX.out, getD_of HY.out]; omega) hz1' (by omega))
      clear hz0' hz1'
      have q1 : decide ((x : Int) - (y : Int) < 0) = true := by simp <;> omega
      clear hneg
      go_wp2_with (at_builtin; refine wpList_append_own _ rfl _ _ 77 rfl w.heap.size 3 i0 (.int .i64 0) 1 8 Tryz.underlying77 hi hz0 hz1 hz2 rfl (by decide) _ s.length _ rfl (hO.out.alloc _) ⟨wr.heap.size, 0, none⟩ 1 1 [.int .i64 ((↑x - ↑y + 1000000000 : Int))] rfl rfl (cell_one_new wr (.int .i64 ((↑x - ↑y + 1000000000 : Int))) 3) (by simp [Value.oneCell']) (by unfold maxLen; omega) (by omega) (by have := hB.out.size; simp; omega) ?_; intro v' w3 hown3 hgrow3 _; have HO3 := hid hown3; have HG3 := hid hgrow3; clear hown3 hgrow3)
      rw [hzI.out] at HO3
      obtain ⟨n1, n2⟩ := own_next hO.out hB.out HO3.out HG3.out
      have N1 := hid n1; have N2 := hid n2; clear n1 n2 HO3 HG3
      obtain ⟨a3, k3, rfl⟩ := owns_ex N1.out
      go_wp2_with fail
      go_roundw
      case rel => exact ⟨s ++ [z], 1, _, by simp, rfl, by simp, by omega, by simp <;> omega, HN, N1, N2⟩
      case measure => simp [intOf] <;> omega
     ·obtain ⟨z, hz0', hz1', hzI⟩ : ∃ z : Nat, x + 1000000000 * 0 = z + 0 + y ∧ z < 1000000000 ∧ Hid ((↑x - ↑y : Int) = (z : Int)) := ⟨((↑x - ↑y : Int)).toNat, by omega, by omega, by rw [Hid]; omega⟩
      have HN := hid (hP.out.next (z := z) (c' := 0) (by rw [getD_of HX.out, getD_of HY.out]; omega) hz1' (by omega))
      clear hz0' hz1'
      have q1 : decide ((x : Int) - (y : Int) < 0) = false := by simp <;> omega
      clear hneg
      go_wp2_with (at_builtin; refine wpList_append_own _ rfl _ _ 77 rfl w.heap.size 3 i0 (.int .i64 0) 1 8 Tryz.underlying77 hi hz0 hz1 hz2 rfl (by decide) _ s.length _ rfl (hO.out.alloc _) ⟨wr.heap.size, 0, none⟩ 1 1 [.int .i64 ((↑x - ↑y : Int))] rfl rfl (cell_one_new wr (.int .i64 ((↑x - ↑y : Int))) 3) (by simp [Value.oneCell']) (by unfold maxLen; omega) (by omega) (by have := hB.out.size; simp; omega) ?_; intro v' w3 hown3 hgrow3 _; have HO3 := hid hown3; have HG3 := hid hgrow3; clear hown3 hgrow3)
      rw [hzI.out] at HO3
      obtain ⟨n1, n2⟩ := own_next hO.out hB.out HO3.out HG3.out
      have N1 := hid n1; have N2 := hid n2; clear n1 n2 HO3 HG3
      obtain ⟨a3, k3, rfl⟩ := owns_ex N1.out
      go_wp2_with fail
      go_roundw
      case rel => exact ⟨s ++ [z], 0, _, by simp, rfl, by simp, by omega, by simp <;> omega, HN, N1, N2⟩
      case measure => simp [intOf] <;> omega
    ·obtain rfl : C = 1 := by omega
     clear hC
     by_cases hneg : x < y + 1
     ·obtain ⟨z, hz0', hz1', hzI⟩ : ∃ z : Nat, x + 1000000000 * 1 = z + 1 + y ∧ z < 1000000000 ∧ Hid ((↑x - 1 - ↑y + 1000000000 : Int) = (z : Int)) := ⟨((↑x - 1 - ↑y + 1000000000 : Int)).toNat, by omega, by omega, by rw [Hid]; omega⟩
      have HN := hid (hP.out.next (z := z) (c' := 1) (by rw [getD_of HX.out, getD_of HY.out]; omega) hz1' (by omega))
      clear hz0' hz1'
      have q1 : decide ((x : Int) - 1 - (y : Int) < 0) = true := by simp <;> omega
      clear hneg
      go_wp2_with (at_builtin; refine wpList_append_own _ rfl _ _ 77 rfl w.heap.size 3 i0 (.int .i64 0) 1 8 Tryz.underlying77 hi hz0 hz1 hz2 rfl (by decide) _ s.length _ rfl (hO.out.alloc _) ⟨wr.heap.size, 0, none⟩ 1 1 [.int .i64 ((↑x - 1 - ↑y + 1000000000 : Int))] rfl rfl (cell_one_new wr (.int .i64 ((↑x - 1 - ↑y + 1000000000 : Int))) 3) (by simp [Value.oneCell']) (by unfold maxLen; omega) (by omega) (by have := hB.out.size; simp; omega) ?_; intro v' w3 hown3 hgrow3 _; have HO3 := hid hown3; have HG3 := hid hgrow3; clear hown3 hgrow3)
      rw [hzI.out] at HO3
      obtain ⟨n1, n2⟩ := own_next hO.out hB.out HO3.out HG3.out
      have N1 := hid n1; have N2 := hid n2; clear n1 n2 HO3 HG3
      obtain ⟨a3, k3, rfl⟩ := owns_ex N1.out
      go_wp2_with fail
      go_roundw
      case rel => exact ⟨s ++ [z], 1, _, by simp, rfl, by simp, by omega, by simp <;> omega, HN, N1, N2⟩
      case measure => simp [intOf] <;> omega
     ·obtain ⟨z, hz0', hz1', hzI⟩ : ∃ z : Nat, x + 1000000000 * 0 = z + 1 + y ∧ z < 1000000000 ∧ Hid ((↑x - 1 - ↑y : Int) = (z : Int)) := ⟨((↑x - 1 - ↑y : Int)).toNat, by omega, by omega, by rw [Hid]; omega⟩
      have HN := hid (hP.out.next (z := z) (c' := 0) (by rw [getD_of HX.out, getD_of HY.out]; omega) hz1' (by omega))
      clear hz0' hz1'
      have q1 : decide ((x : Int) - 1 - (y : Int) < 0) = false := by simp <;> omega
      clear hneg
      go_wp2_with (at_builtin; refine wpList_append_own _ rfl _ _ 77 rfl w.heap.size 3 i0 (.int .i64 0) 1 8 Tryz.underlying77 hi hz0 hz1 hz2 rfl (by decide) _ s.length _ rfl (hO.out.alloc _) ⟨wr.heap.size, 0, none⟩ 1 1 [.int .i64 ((↑x - 1 - ↑y : Int))] rfl rfl (cell_one_new wr (.int .i64 ((↑x - 1 - ↑y : Int))) 3) (by simp [Value.oneCell']) (by unfold maxLen; omega) (by omega) (by have := hB.out.size; simp; omega) ?_; intro v' w3 hown3 hgrow3 _; have HO3 := hid hown3; have HG3 := hid hgrow3; clear hown3 hgrow3)
      rw [hzI.out] at HO3
      obtain ⟨n1, n2⟩ := own_next hO.out hB.out HO3.out HG3.out
      have N1 := hid n1; have N2 := hid n2; clear n1 n2 HO3 HG3
      obtain ⟨a3, k3, rfl⟩ := owns_ex N1.out
      go_wp2_with fail
      go_roundw
      case rel => exact ⟨s ++ [z], 0, _, by simp, rfl, by simp, by omega, by simp <;> omega, HN, N1, N2⟩
      case measure => simp [intOf] <;> omega
   ·skip
    rcases (show c = 0 ∨ c = 1 by omega) with rfl | rfl
    ·obtain rfl : C = 0 := by omega
     clear hC
     by_cases hneg : x < 0 + 0
     ·omega
     ·obtain ⟨z, hz0', hz1', hzI⟩ : ∃ z : Nat, x + 1000000000 * 0 = z + 0 + 0 ∧ z < 1000000000 ∧ Hid ((↑x : Int) = (z : Int)) := ⟨((↑x : Int)).toNat, by omega, by omega, by rw [Hid]; omega⟩
      have HN := hid (hP.out.next (z := z) (c' := 0) (by rw [getD_of HX.out, getD_none (by rw [HB.out]; omega)]; omega) hz1' (by omega))
      clear hz0' hz1'
      have q1 : decide ((x : Int) < 0) = false := by simp <;> omega
      clear hneg
      go_wp2_with (at_builtin; refine wpList_append_own _ rfl _ _ 77 rfl w.heap.size 3 i0 (.int .i64 0) 1 8 Tryz.underlying77 hi hz0 hz1 hz2 rfl (by decide) _ s.length _ rfl (hO.out.alloc _) ⟨wr.heap.size, 0, none⟩ 1 1 [.int .i64 ((↑x : Int))] rfl rfl (cell_one_new wr (.int .i64 ((↑x : Int))) 3) (by simp [Value.oneCell']) (by unfold maxLen; omega) (by omega) (by have := hB.out.size; simp; omega) ?_; intro v' w3 hown3 hgrow3 _; have HO3 := hid hown3; have HG3 := hid hgrow3; clear hown3 hgrow3)
      rw [hzI.out] at HO3
      obtain ⟨n1, n2⟩ := own_next hO.out hB.out HO3.out HG3.out
      have N1 := hid n1; have N2 := hid n2; clear n1 n2 HO3 HG3
      obtain ⟨a3, k3, rfl⟩ := owns_ex N1.out
      go_wp2_with fail
      go_roundw
      case rel => exact ⟨s ++ [z], 0, _, by simp, rfl, by simp, by omega, by simp <;> omega, HN, N1, N2⟩
      case measure => simp [intOf] <;> omega
    ·obtain rfl : C = 1 := by omega
     clear hC
     by_cases hneg : x < 0 + 1
     ·obtain ⟨z, hz0', hz1', hzI⟩ : ∃ z : Nat, x + 1000000000 * 1 = z + 1 + 0 ∧ z < 1000000000 ∧ Hid ((↑x - 1 + 1000000000 : Int) = (z : Int)) := ⟨((↑x - 1 + 1000000000 : Int)).toNat, by omega, by omega, by rw [Hid]; omega⟩
      have HN := hid (hP.out.next (z := z) (c' := 1) (by rw [getD_of HX.out, getD_none (by rw [HB.out]; omega)]; omega) hz1' (by omega))
      clear hz0' hz1'
      have q1 : decide ((x : Int) - 1 < 0) = true := by simp <;> omega
      clear hneg
      go_wp2_with (at_builtin; refine wpList_append_own _ rfl _ _ 77 rfl w.heap.size 3 i0 (.int .i64 0) 1 8 Tryz.underlying77 hi hz0 hz1 hz2 rfl (by decide) _ s.length _ rfl (hO.out.alloc _) ⟨wr.heap.size, 0, none⟩ 1 1 [.int .i64 ((↑x - 1 + 1000000000 : Int))] rfl rfl (cell_one_new wr (.int .i64 ((↑x - 1 + 1000000000 : Int))) 3) (by simp [Value.oneCell']) (by unfold maxLen; omega) (by omega) (by have := hB.out.size; simp; omega) ?_; intro v' w3 hown3 hgrow3 _; have HO3 := hid hown3; have HG3 := hid hgrow3; clear hown3 hgrow3)
      rw [hzI.out] at HO3
      obtain ⟨n1, n2⟩ := own_next hO.out hB.out HO3.out HG3.out
      have N1 := hid n1; have N2 := hid n2; clear n1 n2 HO3 HG3
      obtain ⟨a3, k3, rfl⟩ := owns_ex N1.out
      go_wp2_with fail
      go_roundw
      case rel => exact ⟨s ++ [z], 1, _, by simp, rfl, by simp, by omega, by simp <;> omega, HN, N1, N2⟩
      case measure => simp [intOf] <;> omega
     ·obtain ⟨z, hz0', hz1', hzI⟩ : ∃ z : Nat, x + 1000000000 * 0 = z + 1 + 0 ∧ z < 1000000000 ∧ Hid ((↑x - 1 : Int) = (z : Int)) := ⟨((↑x - 1 : Int)).toNat, by omega, by omega, by rw [Hid]; omega⟩
      have HN := hid (hP.out.next (z := z) (c' := 0) (by rw [getD_of HX.out, getD_none (by rw [HB.out]; omega)]; omega) hz1' (by omega))
      clear hz0' hz1'
      have q1 : decide ((x : Int) - 1 < 0) = false := by simp <;> omega
      clear hneg
      go_wp2_with (at_builtin; refine wpList_append_own _ rfl _ _ 77 rfl w.heap.size 3 i0 (.int .i64 0) 1 8 Tryz.underlying77 hi hz0 hz1 hz2 rfl (by decide) _ s.length _ rfl (hO.out.alloc _) ⟨wr.heap.size, 0, none⟩ 1 1 [.int .i64 ((↑x - 1 : Int))] rfl rfl (cell_one_new wr (.int .i64 ((↑x - 1 : Int))) 3) (by simp [Value.oneCell']) (by unfold maxLen; omega) (by omega) (by have := hB.out.size; simp; omega) ?_; intro v' w3 hown3 hgrow3 _; have HO3 := hid hown3; have HG3 := hid hgrow3; clear hown3 hgrow3)
      rw [hzI.out] at HO3
      obtain ⟨n1, n2⟩ := own_next hO.out hB.out HO3.out HG3.out
      have N1 := hid n1; have N2 := hid n2; clear n1 n2 HO3 HG3
      obtain ⟨a3, k3, rfl⟩ := owns_ex N1.out
      go_wp2_with fail
      go_roundw
      case rel => exact ⟨s ++ [z], 0, _, by simp, rfl, by simp, by omega, by simp <;> omega, HN, N1, N2⟩
      case measure => simp [intOf] <;> omega
  ·obtain rfl : s.length = n := by omega
   have hv := hid (hP.out.done HA.out.symm HL.out)
   go_wp2_with (go_at_call 122; refine (r1_trim_at _ _ _ s hP.out.sm (Row.of_owns hO.out)).mono ?_; rintro e w1 ⟨⟨m1, rfl, hv1⟩, rfl⟩)
   go_ret
   exact ⟨⟨_, rfl, by rw [← hv.out]; exact hv1, fun g hg => (hO.out.lt g (by cases ao <;> exact hg)).1⟩, hB.out⟩
theorem r1_Minus (w : World) (v u : Value) (a b : Nat) (ha : IsN .i64 w v a) (hb : IsN .i64 w u b) (hle : b ≤ a) (hla : (limbs a).length ≤ 1000000) :
 Calls Tryz.prog 112 #[v, u] w fun e w' => RetN .i64 (a - b) e w' ∧ Below w.heap.size w w' :=
 (r1_MinusF w v u a b ha hb hle hla).mono fun _ _ h => ⟨h.1.ret, h.2⟩
def PlKey (m1 m2 : Bool) (x y : Nat) (m : Bool) (s : Nat) : Prop :=
 (m1 = m2 ∧ m = m1 ∧ s = x + y) ∨ ((m1 == m2) = false ∧ x < y ∧ m = m2 ∧ s = y - x) ∨ ((m1 == m2) = false ∧ y ≤ x ∧ m = m1 ∧ s = x - y)
theorem limbs_add {a b p : Nat} (ha : (limbs a).length ≤ p) (hb : (limbs b).length ≤ p) : (limbs (a + b)).length ≤ p + 1 := by
 refine limbs_length_le.2 ?_
 have h1 := limbs_length_le.1 ha
 have h2 := limbs_length_le.1 hb
 rw [Nat.pow_succ]
 omega
theorem ord_ge {x y : Nat} (h : y ≤ x) : decide (ordN x y < 0) = false := by
 unfold ordN
 split
 ·omega
 ·split <;> simp
theorem r2_Plus_walk (w : World) (m1 m2 m : Bool) (N1 D1 N2 D2 : Value) (n1 d1 n2 d2 s : Nat) (hn1 : IsN .i64 w N1 n1) (hd1 : IsN .i64 w D1 d1) (hn2 : IsN .i64 w N2 n2) (hd2 : IsN .i64 w D2 d2)
 (l1 : (limbs n1).length ≤ 100000) (l2 : (limbs d1).length ≤ 100000) (l3 : (limbs n2).length ≤ 100000) (l4 : (limbs d2).length ≤ 100000) (p1 : 0 < d1) (p2 : 0 < d2) (key : PlKey m1 m2 (n1 * d2) (n2 * d1) m s) :
 Calls Tryz.prog 58 #[.agg #[.bool m1, N1, D1], .agg #[.bool m2, N2, D2]] w fun e w' => RetQ .i64 (qmk m s (d1 * d2)) e w' ∧ Below w.heap.size w w' := by
 have HN1 := hid hn1; have HD1 := hid hd1; have HN2 := hid hn2; have HD2 := hid hd2
 have L1 := hid (Nat.le_trans (limbs_mul l1 l4) (show 100000 + 100000 ≤ 1000000 by omega))
 have L2 := hid (Nat.le_trans (limbs_mul l3 l2) (show 100000 + 100000 ≤ 1000000 by omega))
 have L3 := hid (Nat.le_trans (limbs_mul l2 l4) (show 100000 + 100000 ≤ 1000000 by omega))
 have H1 := hid (Nat.le_trans l1 (show 100000 ≤ 1000000 by omega))
 have H2 := hid (Nat.le_trans l2 (show 100000 ≤ 1000000 by omega))
 have H3 := hid (Nat.le_trans l3 (show 100000 ≤ 1000000 by omega))
 have H4 := hid (Nat.le_trans l4 (show 100000 ≤ 1000000 by omega))
 have hD := hid (Nat.mul_pos p1 p2)
 have LS : Hid ((limbs s).length ≤ 1000000) := by
  have q1 := limbs_mul l1 l4
  have q2 := limbs_mul l3 l2
  have q3 := limbs_add q1 q2
  have q4 : (limbs s).length ≤ (limbs (n1 * d2 + n2 * d1)).length := limbs_length_mono (by rcases key with ⟨-, -, rfl⟩ | ⟨-, -, -, rfl⟩ | ⟨-, -, -, rfl⟩ <;> omega)
  show _ ≤ _
  omega
 clear l1 l2 l3 l4 p1 p2
 obtain ⟨a1, c1, rfl, _⟩ := hn1.openI
 obtain ⟨a2, c2, rfl, _⟩ := hd1.openI
 obtain ⟨a3, c3, rfl, _⟩ := hn2.openI
 obtain ⟨a4, c4, rfl, _⟩ := hd2.openI
 obtain ⟨k1, hk1⟩ : ∃ k, (limbs n1).length = k := ⟨_, rfl⟩
 obtain ⟨k2, hk2⟩ : ∃ k, (limbs d1).length = k := ⟨_, rfl⟩
 obtain ⟨k3, hk3⟩ : ∃ k, (limbs n2).length = k := ⟨_, rfl⟩
 obtain ⟨k4, hk4⟩ : ∃ k, (limbs d2).length = k := ⟨_, rfl⟩
 rw [hk1] at HN1 ⊢
 rw [hk2] at HD1 ⊢
 rw [hk3] at HN2 ⊢
 rw [hk4] at HD2 ⊢
 clear hn1 hd1 hn2 hd2 hk1 hk2 hk3 hk4
 obtain ⟨x, hx⟩ : ∃ x, n1 * d2 = x := ⟨_, rfl⟩
 obtain ⟨y, hy⟩ : ∃ y, n2 * d1 = y := ⟨_, rfl⟩
 obtain ⟨z, hz⟩ : ∃ z, d1 * d2 = z := ⟨_, rfl⟩
 rw [hx, hy] at key
 rw [hx] at L1
 rw [hy] at L2
 rw [hz] at hD L3 ⊢
 have HX := hid hx; have HY := hid hy; have HZ := hid hz
 clear hx hy hz
 unfold PlKey at key
 rcases key with ⟨rfl, rfl, rfl⟩ | ⟨hne, hlt, rfl, rfl⟩ | ⟨hne, hle, rfl, rfl⟩
 ·go_enter Tryz.func58, Tryz.ntmps58
  go_wp2_with fail
  obtain ⟨W, hW⟩ : ∃ W, ((w.alloc (.cells #[.bool m, .slice a1 k1 c1, .slice a2 k2 c2] 79)).alloc (.cells #[.bool m, .slice a3 k3 c3, .slice a4 k4 c4] 79)).alloc (.cells #[.bool false, .slice none 0 0, .slice none 0 0] 79) = W := ⟨_, rfl⟩
  rw [hW]
  have X0 : Below w.heap.size w W := by rw [← hW]; exact (((Below.refl _ _).alloc (Nat.le_refl _) _).alloc (by simp) _).alloc (by simp; omega) _
  have Y0 : Blk W w.heap.size #[.bool m, .slice a1 k1 c1, .slice a2 k2 c2] 79 := by rw [← hW]; exact ((Blk.new w _ _).alloc _).alloc _
  have Y1 : Blk W (w.heap.size + 1) #[.bool m, .slice a3 k3 c3, .slice a4 k4 c4] 79 := by rw [← hW]; exact (Blk.made (w.alloc _) _ _ (by simp)).alloc _
  have Y2 : Blk W (w.heap.size + 1 + 1) #[.bool false, .slice none 0 0, .slice none 0 0] 79 := by rw [← hW]; exact Blk.made ((w.alloc _).alloc _) _ _ (by simp)
  have K : Hid (∀ w', Below W.heap.size W w' → w'.cell? ⟨w.heap.size, 0, none⟩ = some (.bool m) ∧ w'.cell? ⟨w.heap.size, 1, none⟩ = some (.slice a1 k1 c1) ∧ w'.cell? ⟨w.heap.size, 2, none⟩ = some (.slice a2 k2 c2) ∧ w'.cell? ⟨w.heap.size + 1, 0, none⟩ = some (.bool m) ∧ w'.cell? ⟨w.heap.size + 1, 1, none⟩ = some (.slice a3 k3 c3) ∧ w'.cell? ⟨w.heap.size + 1, 2, none⟩ = some (.slice a4 k4 c4)) := fun w' hb => ⟨(Y0.call hb).cell 0, (Y0.call hb).cell 1, (Y0.call hb).cell 2, (Y1.call hb).cell 0, (Y1.call hb).cell 1, (Y1.call hb).cell 2⟩
  have HY0 := hid Y0; have HY1 := hid Y1; have HY2 := hid Y2; have HX0 := hid X0
  obtain ⟨i0, i1, i2, i3, i4, i5⟩ := K W (Below.refl _ _)
  clear Y0 Y1 Y2 X0 hW
  have XN1 := hid (HN1.out.call HX0.out); have XD1 := hid (HD1.out.call HX0.out); have XN2 := hid (HN2.out.call HX0.out); have XD2 := hid (HD2.out.call HX0.out)
  go_region_held3 (fun w' => w'.cell? ⟨w.heap.size, 0, none⟩ = some (.bool m) ∧ w'.cell? ⟨w.heap.size, 1, none⟩ = some (.slice a1 k1 c1) ∧ w'.cell? ⟨w.heap.size, 2, none⟩ = some (.slice a2 k2 c2) ∧ w'.cell? ⟨w.heap.size + 1, 0, none⟩ = some (.bool m) ∧ w'.cell? ⟨w.heap.size + 1, 1, none⟩ = some (.slice a3 k3 c3) ∧ w'.cell? ⟨w.heap.size + 1, 2, none⟩ = some (.slice a4 k4 c4))
   (first
    | exact K.out _ (Below.refl _ _).drew
    | exact K.out _ bb2.out
    | exact K.out _ bb1.out)
   (first
    | (go_at_call_of 110 (Value.slice a1 k1 c1); refine (r1_Times _ _ _ n1 d2 (XN1.out.call (by first | exact bb2.out | exact (Below.refl _ _).drew)) (XD2.out.call (by first | exact bb2.out | exact (Below.refl _ _).drew)) H1.out H4.out).mono ?_; rintro e w1 ⟨⟨v1, rfl, hv1⟩, hb1⟩; have bb1 := hid (bnext (by first | exact bb2.out | exact (Below.refl _ _).drew) hb1))
    | (go_at_call_of 110 (Value.slice a3 k3 c3); refine (r1_Times _ _ _ n2 d1 (XN2.out.call (by first | exact bb1.out | exact (Below.refl _ _).drew)) (XD1.out.call (by first | exact bb1.out | exact (Below.refl _ _).drew)) H3.out H2.out).mono ?_; rintro e w2 ⟨⟨v2, rfl, hv2⟩, hb2⟩; have bb2 := hid (bnext (by first | exact bb1.out | exact (Below.refl _ _).drew) hb2)))
  have V2 := hid hv2; have V1 := hid (hv1.call hb2)
  rw [HX.out] at V1
  rw [HY.out] at V2
  clear hv1 hv2 hb1 hb2 i0 i1 i2 i3 i4 i5
  obtain ⟨i0, i1, i2, i3, i4, i5⟩ := K.out _ bb2.out
  go_wp2_with fail
  refine (r1_Times _ _ _ d1 d2 (XD1.out.call bb2.out) (XD2.out.call bb2.out) H2.out H4.out).mono ?_; rintro e w3 ⟨⟨v3, rfl, hv3⟩, hb3⟩
  have bb3 := hid (bnext bb2.out hb3)
  rw [HZ.out] at hv3
  have V3 := hid hv3
  have V1' := hid (V1.out.call hb3); have V2' := hid (V2.out.call hb3)
  clear hv3 hb3 i0 i1 i2 i3 i4 i5 V1 V2
  obtain ⟨i0, i1, i2, i3, i4, i5⟩ := K.out _ bb3.out
  obtain ⟨ja1, jc1, rfl, _⟩ := V1'.out.openI
  obtain ⟨ja2, jc2, rfl, _⟩ := V2'.out.openI
  obtain ⟨ja3, jc3, rfl, _⟩ := V3.out.openI
  obtain ⟨jk1, hj1⟩ : ∃ k, (limbs x).length = k := ⟨_, rfl⟩
  obtain ⟨jk2, hj2⟩ : ∃ k, (limbs y).length = k := ⟨_, rfl⟩
  obtain ⟨jk3, hj3⟩ : ∃ k, (limbs z).length = k := ⟨_, rfl⟩
  rw [hj1] at V1' ⊢
  rw [hj2] at V2' ⊢
  rw [hj3] at V3 ⊢
  clear hj1 hj2 hj3
  go_wp2_with fail
  have K2 : Hid (∀ w1 x y z, Below W.heap.size W w1 → ∀ w', ((w1.setCell ⟨w.heap.size + 1 + 1, 0, none⟩ x).setCell ⟨w.heap.size + 1 + 1, 1, none⟩ y).setCell ⟨w.heap.size + 1 + 1, 2, none⟩ z = w' → w'.cell? ⟨w.heap.size, 0, none⟩ = some (.bool m) ∧ w'.cell? ⟨w.heap.size, 1, none⟩ = some (.slice a1 k1 c1) ∧ w'.cell? ⟨w.heap.size, 2, none⟩ = some (.slice a2 k2 c2) ∧ w'.cell? ⟨w.heap.size + 1, 0, none⟩ = some (.bool m) ∧ w'.cell? ⟨w.heap.size + 1, 1, none⟩ = some (.slice a3 k3 c3) ∧ w'.cell? ⟨w.heap.size + 1, 2, none⟩ = some (.slice a4 k4 c4)) := by
   rintro w1 x y z hb _ rfl
   have Z0 := (((HY0.out.call hb).other (a := ⟨w.heap.size + 1 + 1, 0, none⟩) (by simp; omega) x).other (a := ⟨w.heap.size + 1 + 1, 1, none⟩) (by simp; omega) y).other (a := ⟨w.heap.size + 1 + 1, 2, none⟩) (by simp; omega) z
   have Z1 := (((HY1.out.call hb).other (a := ⟨w.heap.size + 1 + 1, 0, none⟩) (by simp) x).other (a := ⟨w.heap.size + 1 + 1, 1, none⟩) (by simp) y).other (a := ⟨w.heap.size + 1 + 1, 2, none⟩) (by simp) z
   exact ⟨Z0.cell 0, Z0.cell 1, Z0.cell 2, Z1.cell 0, Z1.cell 1, Z1.cell 2⟩
  go_region_held3 (fun w' => w'.cell? ⟨w.heap.size, 0, none⟩ = some (.bool m) ∧ w'.cell? ⟨w.heap.size, 1, none⟩ = some (.slice a1 k1 c1) ∧ w'.cell? ⟨w.heap.size, 2, none⟩ = some (.slice a2 k2 c2) ∧ w'.cell? ⟨w.heap.size + 1, 0, none⟩ = some (.bool m) ∧ w'.cell? ⟨w.heap.size + 1, 1, none⟩ = some (.slice a3 k3 c3) ∧ w'.cell? ⟨w.heap.size + 1, 2, none⟩ = some (.slice a4 k4 c4))
   (first
    | exact K.out _ (by first | exact bb3.out.drew | exact below_drewN bb3.out _)
    | exact K2.out _ _ _ _ bb6.out _ rfl
    | exact K.out _ bb6.out
    | exact K.out _ bb5.out)
   (first
    | (go_at_call 72; refine (r1_Plus _ _ _ x y (V1'.out.call (by first | exact (Below.refl _ _).drew | exact below_drewN (Below.refl _ _) _ | exact Below.refl _ _)) (V2'.out.call (by first | exact (Below.refl _ _).drew | exact below_drewN (Below.refl _ _) _ | exact Below.refl _ _)) L1.out L2.out).mono ?_; rintro e w5 ⟨⟨v5, rfl, hv5⟩, hb5⟩; have bb5 := hid (bnext (by first | exact bb3.out.drew | exact below_drewN bb3.out _ | exact bb3.out) hb5); have V5 := hid hv5; have Z5 := hid ((V3.out.call (Below.refl _ _).drew).call hb5))
    | (go_at_call 111; refine (r2_Reduce _ _ _ _ (x + y) z V5.out Z5.out hD.out LS.out L3.out).mono ?_; rintro e w6 ⟨⟨v6, rfl, hv6⟩, hb6⟩; obtain ⟨N6, D6, rfl, hN6, hD6⟩ := hv6.ex; have bb6 := hid (bnext bb5.out hb6); obtain ⟨a5, c5, rfl, _⟩ := hN6.openI; obtain ⟨a6, c6, rfl, _⟩ := hD6.openI; have HN6 := hid hN6; have HD6 := hid hD6; have Z := hid (HY2.out.call bb6.out); have t0 := Z.out.cell 0; have t1 := Z.out.cell 1; have t2 := Z.out.cell 2; have t3 := Z.out.free 0; have t4 := Z.out.free 1; have t5 := Z.out.free 2; clear hv6 hN6 hD6))
  go_wp2_with fail
  obtain ⟨s1, s2⟩ := set3 Z.out (decide ((qmk m (x + y) z).num < 0)) a5 a6 (limbs (qmk m (x + y) z).num.natAbs).length c5 (limbs (qmk m (x + y) z).den).length c6
  have f0 := s2.cell 0
  have f1 := s2.cell 1
  have f2 := s2.cell 2
  simp at f0 f1 f2
  refine bodyPost_ret (v := .agg #[.bool (decide ((qmk m (x + y) z).num < 0)), .slice a5 (limbs (qmk m (x + y) z).num.natAbs).length c5, .slice a6 (limbs (qmk m (x + y) z).den).length c6]) (by simp [results, Tryz.results58, go_sem, f0, f1, f2]) rfl ⟨⟨_, rfl, ⟨_, _, rfl, s1 _ _ _ HN6.out, s1 _ _ _ HD6.out⟩⟩, ?_⟩
  exact (((HX0.out.trans (bb6.out.mono (Nat.le_trans (Nat.le_refl _) HX0.out.size))).setCell (by simp; omega) _).setCell (by simp; omega) _).setCell (by simp; omega) _
 ·have HLT := hid hlt; have HLE := hid (Nat.le_of_lt hlt)
  clear hlt
  go_enter Tryz.func58, Tryz.ntmps58
  go_wp2_with fail
  obtain ⟨W, hW⟩ : ∃ W, ((w.alloc (.cells #[.bool m1, .slice a1 k1 c1, .slice a2 k2 c2] 79)).alloc (.cells #[.bool m, .slice a3 k3 c3, .slice a4 k4 c4] 79)).alloc (.cells #[.bool false, .slice none 0 0, .slice none 0 0] 79) = W := ⟨_, rfl⟩
  rw [hW]
  have X0 : Below w.heap.size w W := by rw [← hW]; exact (((Below.refl _ _).alloc (Nat.le_refl _) _).alloc (by simp) _).alloc (by simp; omega) _
  have Y0 : Blk W w.heap.size #[.bool m1, .slice a1 k1 c1, .slice a2 k2 c2] 79 := by rw [← hW]; exact ((Blk.new w _ _).alloc _).alloc _
  have Y1 : Blk W (w.heap.size + 1) #[.bool m, .slice a3 k3 c3, .slice a4 k4 c4] 79 := by rw [← hW]; exact (Blk.made (w.alloc _) _ _ (by simp)).alloc _
  have Y2 : Blk W (w.heap.size + 1 + 1) #[.bool false, .slice none 0 0, .slice none 0 0] 79 := by rw [← hW]; exact Blk.made ((w.alloc _).alloc _) _ _ (by simp)
  have K : Hid (∀ w', Below W.heap.size W w' → w'.cell? ⟨w.heap.size, 0, none⟩ = some (.bool m1) ∧ w'.cell? ⟨w.heap.size, 1, none⟩ = some (.slice a1 k1 c1) ∧ w'.cell? ⟨w.heap.size, 2, none⟩ = some (.slice a2 k2 c2) ∧ w'.cell? ⟨w.heap.size + 1, 0, none⟩ = some (.bool m) ∧ w'.cell? ⟨w.heap.size + 1, 1, none⟩ = some (.slice a3 k3 c3) ∧ w'.cell? ⟨w.heap.size + 1, 2, none⟩ = some (.slice a4 k4 c4)) := fun w' hb => ⟨(Y0.call hb).cell 0, (Y0.call hb).cell 1, (Y0.call hb).cell 2, (Y1.call hb).cell 0, (Y1.call hb).cell 1, (Y1.call hb).cell 2⟩
  have HY0 := hid Y0; have HY1 := hid Y1; have HY2 := hid Y2; have HX0 := hid X0
  obtain ⟨i0, i1, i2, i3, i4, i5⟩ := K W (Below.refl _ _)
  clear Y0 Y1 Y2 X0 hW
  have XN1 := hid (HN1.out.call HX0.out); have XD1 := hid (HD1.out.call HX0.out); have XN2 := hid (HN2.out.call HX0.out); have XD2 := hid (HD2.out.call HX0.out)
  go_region_held3 (fun w' => w'.cell? ⟨w.heap.size, 0, none⟩ = some (.bool m1) ∧ w'.cell? ⟨w.heap.size, 1, none⟩ = some (.slice a1 k1 c1) ∧ w'.cell? ⟨w.heap.size, 2, none⟩ = some (.slice a2 k2 c2) ∧ w'.cell? ⟨w.heap.size + 1, 0, none⟩ = some (.bool m) ∧ w'.cell? ⟨w.heap.size + 1, 1, none⟩ = some (.slice a3 k3 c3) ∧ w'.cell? ⟨w.heap.size + 1, 2, none⟩ = some (.slice a4 k4 c4))
   (first
    | exact K.out _ (Below.refl _ _).drew
    | exact K.out _ bb2.out
    | exact K.out _ bb1.out)
   (first
    | (go_at_call_of 110 (Value.slice a1 k1 c1); refine (r1_Times _ _ _ n1 d2 (XN1.out.call (by first | exact bb2.out | exact (Below.refl _ _).drew)) (XD2.out.call (by first | exact bb2.out | exact (Below.refl _ _).drew)) H1.out H4.out).mono ?_; rintro e w1 ⟨⟨v1, rfl, hv1⟩, hb1⟩; have bb1 := hid (bnext (by first | exact bb2.out | exact (Below.refl _ _).drew) hb1))
    | (go_at_call_of 110 (Value.slice a3 k3 c3); refine (r1_Times _ _ _ n2 d1 (XN2.out.call (by first | exact bb1.out | exact (Below.refl _ _).drew)) (XD1.out.call (by first | exact bb1.out | exact (Below.refl _ _).drew)) H3.out H2.out).mono ?_; rintro e w2 ⟨⟨v2, rfl, hv2⟩, hb2⟩; have bb2 := hid (bnext (by first | exact bb1.out | exact (Below.refl _ _).drew) hb2)))
  have V2 := hid hv2; have V1 := hid (hv1.call hb2)
  rw [HX.out] at V1
  rw [HY.out] at V2
  clear hv1 hv2 hb1 hb2 i0 i1 i2 i3 i4 i5
  obtain ⟨i0, i1, i2, i3, i4, i5⟩ := K.out _ bb2.out
  go_wp2_with fail
  refine (r1_Times _ _ _ d1 d2 (XD1.out.call bb2.out) (XD2.out.call bb2.out) H2.out H4.out).mono ?_; rintro e w3 ⟨⟨v3, rfl, hv3⟩, hb3⟩
  have bb3 := hid (bnext bb2.out hb3)
  rw [HZ.out] at hv3
  have V3 := hid hv3
  have V1' := hid (V1.out.call hb3); have V2' := hid (V2.out.call hb3)
  clear hv3 hb3 i0 i1 i2 i3 i4 i5 V1 V2
  obtain ⟨i0, i1, i2, i3, i4, i5⟩ := K.out _ bb3.out
  obtain ⟨ja1, jc1, rfl, _⟩ := V1'.out.openI
  obtain ⟨ja2, jc2, rfl, _⟩ := V2'.out.openI
  obtain ⟨ja3, jc3, rfl, _⟩ := V3.out.openI
  obtain ⟨jk1, hj1⟩ : ∃ k, (limbs x).length = k := ⟨_, rfl⟩
  obtain ⟨jk2, hj2⟩ : ∃ k, (limbs y).length = k := ⟨_, rfl⟩
  obtain ⟨jk3, hj3⟩ : ∃ k, (limbs z).length = k := ⟨_, rfl⟩
  rw [hj1] at V1' ⊢
  rw [hj2] at V2' ⊢
  rw [hj3] at V3 ⊢
  clear hj1 hj2 hj3
  go_wp2_with fail
  refine (r1_Order _ _ _ x y V1'.out V2'.out).mono ?_; rintro e w4 ⟨rfl, hb4⟩
  have bb4 := hid (bnext bb3.out hb4)
  have W1 := hid (V1'.out.call hb4); have W2 := hid (V2'.out.call hb4); have W3 := hid (V3.out.call hb4)
  clear hb4 i0 i1 i2 i3 i4 i5
  obtain ⟨i0, i1, i2, i3, i4, i5⟩ := K.out _ bb4.out
  rw [ordN_lt HLT.out]
  go_wp2_with fail
  have K2 : Hid (∀ w1 x y z, Below W.heap.size W w1 → ∀ w', ((w1.setCell ⟨w.heap.size + 1 + 1, 0, none⟩ x).setCell ⟨w.heap.size + 1 + 1, 1, none⟩ y).setCell ⟨w.heap.size + 1 + 1, 2, none⟩ z = w' → w'.cell? ⟨w.heap.size, 0, none⟩ = some (.bool m1) ∧ w'.cell? ⟨w.heap.size, 1, none⟩ = some (.slice a1 k1 c1) ∧ w'.cell? ⟨w.heap.size, 2, none⟩ = some (.slice a2 k2 c2) ∧ w'.cell? ⟨w.heap.size + 1, 0, none⟩ = some (.bool m) ∧ w'.cell? ⟨w.heap.size + 1, 1, none⟩ = some (.slice a3 k3 c3) ∧ w'.cell? ⟨w.heap.size + 1, 2, none⟩ = some (.slice a4 k4 c4)) := by
   rintro w1 x y z hb _ rfl
   have Z0 := (((HY0.out.call hb).other (a := ⟨w.heap.size + 1 + 1, 0, none⟩) (by simp; omega) x).other (a := ⟨w.heap.size + 1 + 1, 1, none⟩) (by simp; omega) y).other (a := ⟨w.heap.size + 1 + 1, 2, none⟩) (by simp; omega) z
   have Z1 := (((HY1.out.call hb).other (a := ⟨w.heap.size + 1 + 1, 0, none⟩) (by simp) x).other (a := ⟨w.heap.size + 1 + 1, 1, none⟩) (by simp) y).other (a := ⟨w.heap.size + 1 + 1, 2, none⟩) (by simp) z
   exact ⟨Z0.cell 0, Z0.cell 1, Z0.cell 2, Z1.cell 0, Z1.cell 1, Z1.cell 2⟩
  go_region_held3 (fun w' => w'.cell? ⟨w.heap.size, 0, none⟩ = some (.bool m1) ∧ w'.cell? ⟨w.heap.size, 1, none⟩ = some (.slice a1 k1 c1) ∧ w'.cell? ⟨w.heap.size, 2, none⟩ = some (.slice a2 k2 c2) ∧ w'.cell? ⟨w.heap.size + 1, 0, none⟩ = some (.bool m) ∧ w'.cell? ⟨w.heap.size + 1, 1, none⟩ = some (.slice a3 k3 c3) ∧ w'.cell? ⟨w.heap.size + 1, 2, none⟩ = some (.slice a4 k4 c4))
   (first
    | exact K.out _ (by first | exact bb4.out.drew | exact below_drewN bb4.out _)
    | exact K2.out _ _ _ _ bb6.out _ rfl
    | exact K.out _ bb6.out
    | exact K.out _ bb5.out)
   (first
    | (go_at_call 112; refine (r1_Minus _ _ _ y x (W2.out.call (by first | exact (Below.refl _ _).drew | exact below_drewN (Below.refl _ _) _ | exact Below.refl _ _)) (W1.out.call (by first | exact (Below.refl _ _).drew | exact below_drewN (Below.refl _ _) _ | exact Below.refl _ _)) HLE.out L2.out).mono ?_; rintro e w5 ⟨⟨v5, rfl, hv5⟩, hb5⟩; have bb5 := hid (bnext (by first | exact bb4.out.drew | exact below_drewN bb4.out _ | exact bb4.out) hb5); have V5 := hid hv5; have Z5 := hid ((W3.out.call (Below.refl _ _).drew).call hb5))
    | (go_at_call 111; refine (r2_Reduce _ _ _ _ (y - x) z V5.out Z5.out hD.out LS.out L3.out).mono ?_; rintro e w6 ⟨⟨v6, rfl, hv6⟩, hb6⟩; obtain ⟨N6, D6, rfl, hN6, hD6⟩ := hv6.ex; have bb6 := hid (bnext bb5.out hb6); obtain ⟨a5, c5, rfl, _⟩ := hN6.openI; obtain ⟨a6, c6, rfl, _⟩ := hD6.openI; have HN6 := hid hN6; have HD6 := hid hD6; have Z := hid (HY2.out.call bb6.out); have t0 := Z.out.cell 0; have t1 := Z.out.cell 1; have t2 := Z.out.cell 2; have t3 := Z.out.free 0; have t4 := Z.out.free 1; have t5 := Z.out.free 2; clear hv6 hN6 hD6))
  go_wp2_with fail
  obtain ⟨s1, s2⟩ := set3 Z.out (decide ((qmk m (y - x) z).num < 0)) a5 a6 (limbs (qmk m (y - x) z).num.natAbs).length c5 (limbs (qmk m (y - x) z).den).length c6
  have f0 := s2.cell 0
  have f1 := s2.cell 1
  have f2 := s2.cell 2
  simp at f0 f1 f2
  refine bodyPost_ret (v := .agg #[.bool (decide ((qmk m (y - x) z).num < 0)), .slice a5 (limbs (qmk m (y - x) z).num.natAbs).length c5, .slice a6 (limbs (qmk m (y - x) z).den).length c6]) (by simp [results, Tryz.results58, go_sem, f0, f1, f2]) rfl ⟨⟨_, rfl, ⟨_, _, rfl, s1 _ _ _ HN6.out, s1 _ _ _ HD6.out⟩⟩, ?_⟩
  exact (((HX0.out.trans (bb6.out.mono (Nat.le_trans (Nat.le_refl _) HX0.out.size))).setCell (by simp; omega) _).setCell (by simp; omega) _).setCell (by simp; omega) _
 ·have HLE := hid hle
  clear hle
  go_enter Tryz.func58, Tryz.ntmps58
  go_wp2_with fail
  obtain ⟨W, hW⟩ : ∃ W, ((w.alloc (.cells #[.bool m, .slice a1 k1 c1, .slice a2 k2 c2] 79)).alloc (.cells #[.bool m2, .slice a3 k3 c3, .slice a4 k4 c4] 79)).alloc (.cells #[.bool false, .slice none 0 0, .slice none 0 0] 79) = W := ⟨_, rfl⟩
  rw [hW]
  have X0 : Below w.heap.size w W := by rw [← hW]; exact (((Below.refl _ _).alloc (Nat.le_refl _) _).alloc (by simp) _).alloc (by simp; omega) _
  have Y0 : Blk W w.heap.size #[.bool m, .slice a1 k1 c1, .slice a2 k2 c2] 79 := by rw [← hW]; exact ((Blk.new w _ _).alloc _).alloc _
  have Y1 : Blk W (w.heap.size + 1) #[.bool m2, .slice a3 k3 c3, .slice a4 k4 c4] 79 := by rw [← hW]; exact (Blk.made (w.alloc _) _ _ (by simp)).alloc _
  have Y2 : Blk W (w.heap.size + 1 + 1) #[.bool false, .slice none 0 0, .slice none 0 0] 79 := by rw [← hW]; exact Blk.made ((w.alloc _).alloc _) _ _ (by simp)
  have K : Hid (∀ w', Below W.heap.size W w' → w'.cell? ⟨w.heap.size, 0, none⟩ = some (.bool m) ∧ w'.cell? ⟨w.heap.size, 1, none⟩ = some (.slice a1 k1 c1) ∧ w'.cell? ⟨w.heap.size, 2, none⟩ = some (.slice a2 k2 c2) ∧ w'.cell? ⟨w.heap.size + 1, 0, none⟩ = some (.bool m2) ∧ w'.cell? ⟨w.heap.size + 1, 1, none⟩ = some (.slice a3 k3 c3) ∧ w'.cell? ⟨w.heap.size + 1, 2, none⟩ = some (.slice a4 k4 c4)) := fun w' hb => ⟨(Y0.call hb).cell 0, (Y0.call hb).cell 1, (Y0.call hb).cell 2, (Y1.call hb).cell 0, (Y1.call hb).cell 1, (Y1.call hb).cell 2⟩
  have HY0 := hid Y0; have HY1 := hid Y1; have HY2 := hid Y2; have HX0 := hid X0
  obtain ⟨i0, i1, i2, i3, i4, i5⟩ := K W (Below.refl _ _)
  clear Y0 Y1 Y2 X0 hW
  have XN1 := hid (HN1.out.call HX0.out); have XD1 := hid (HD1.out.call HX0.out); have XN2 := hid (HN2.out.call HX0.out); have XD2 := hid (HD2.out.call HX0.out)
  go_region_held3 (fun w' => w'.cell? ⟨w.heap.size, 0, none⟩ = some (.bool m) ∧ w'.cell? ⟨w.heap.size, 1, none⟩ = some (.slice a1 k1 c1) ∧ w'.cell? ⟨w.heap.size, 2, none⟩ = some (.slice a2 k2 c2) ∧ w'.cell? ⟨w.heap.size + 1, 0, none⟩ = some (.bool m2) ∧ w'.cell? ⟨w.heap.size + 1, 1, none⟩ = some (.slice a3 k3 c3) ∧ w'.cell? ⟨w.heap.size + 1, 2, none⟩ = some (.slice a4 k4 c4))
   (first
    | exact K.out _ (Below.refl _ _).drew
    | exact K.out _ bb2.out
    | exact K.out _ bb1.out)
   (first
    | (go_at_call_of 110 (Value.slice a1 k1 c1); refine (r1_Times _ _ _ n1 d2 (XN1.out.call (by first | exact bb2.out | exact (Below.refl _ _).drew)) (XD2.out.call (by first | exact bb2.out | exact (Below.refl _ _).drew)) H1.out H4.out).mono ?_; rintro e w1 ⟨⟨v1, rfl, hv1⟩, hb1⟩; have bb1 := hid (bnext (by first | exact bb2.out | exact (Below.refl _ _).drew) hb1))
    | (go_at_call_of 110 (Value.slice a3 k3 c3); refine (r1_Times _ _ _ n2 d1 (XN2.out.call (by first | exact bb1.out | exact (Below.refl _ _).drew)) (XD1.out.call (by first | exact bb1.out | exact (Below.refl _ _).drew)) H3.out H2.out).mono ?_; rintro e w2 ⟨⟨v2, rfl, hv2⟩, hb2⟩; have bb2 := hid (bnext (by first | exact bb1.out | exact (Below.refl _ _).drew) hb2)))
  have V2 := hid hv2; have V1 := hid (hv1.call hb2)
  rw [HX.out] at V1
  rw [HY.out] at V2
  clear hv1 hv2 hb1 hb2 i0 i1 i2 i3 i4 i5
  obtain ⟨i0, i1, i2, i3, i4, i5⟩ := K.out _ bb2.out
  go_wp2_with fail
  refine (r1_Times _ _ _ d1 d2 (XD1.out.call bb2.out) (XD2.out.call bb2.out) H2.out H4.out).mono ?_; rintro e w3 ⟨⟨v3, rfl, hv3⟩, hb3⟩
  have bb3 := hid (bnext bb2.out hb3)
  rw [HZ.out] at hv3
  have V3 := hid hv3
  have V1' := hid (V1.out.call hb3); have V2' := hid (V2.out.call hb3)
  clear hv3 hb3 i0 i1 i2 i3 i4 i5 V1 V2
  obtain ⟨i0, i1, i2, i3, i4, i5⟩ := K.out _ bb3.out
  obtain ⟨ja1, jc1, rfl, _⟩ := V1'.out.openI
  obtain ⟨ja2, jc2, rfl, _⟩ := V2'.out.openI
  obtain ⟨ja3, jc3, rfl, _⟩ := V3.out.openI
  obtain ⟨jk1, hj1⟩ : ∃ k, (limbs x).length = k := ⟨_, rfl⟩
  obtain ⟨jk2, hj2⟩ : ∃ k, (limbs y).length = k := ⟨_, rfl⟩
  obtain ⟨jk3, hj3⟩ : ∃ k, (limbs z).length = k := ⟨_, rfl⟩
  rw [hj1] at V1' ⊢
  rw [hj2] at V2' ⊢
  rw [hj3] at V3 ⊢
  clear hj1 hj2 hj3
  go_wp2_with fail
  refine (r1_Order _ _ _ x y V1'.out V2'.out).mono ?_; rintro e w4 ⟨rfl, hb4⟩
  have bb4 := hid (bnext bb3.out hb4)
  have W1 := hid (V1'.out.call hb4); have W2 := hid (V2'.out.call hb4); have W3 := hid (V3.out.call hb4)
  clear hb4 i0 i1 i2 i3 i4 i5
  obtain ⟨i0, i1, i2, i3, i4, i5⟩ := K.out _ bb4.out
  obtain ⟨t, ht⟩ : ∃ t, ordN x y = t := ⟨_, rfl⟩
  have q7 : decide (t < 0) = false := by rw [← ht]; exact ord_ge HLE.out
  rw [ht]
  clear ht
  go_wp2_with fail
  have K2 : Hid (∀ w1 x y z, Below W.heap.size W w1 → ∀ w', ((w1.setCell ⟨w.heap.size + 1 + 1, 0, none⟩ x).setCell ⟨w.heap.size + 1 + 1, 1, none⟩ y).setCell ⟨w.heap.size + 1 + 1, 2, none⟩ z = w' → w'.cell? ⟨w.heap.size, 0, none⟩ = some (.bool m) ∧ w'.cell? ⟨w.heap.size, 1, none⟩ = some (.slice a1 k1 c1) ∧ w'.cell? ⟨w.heap.size, 2, none⟩ = some (.slice a2 k2 c2) ∧ w'.cell? ⟨w.heap.size + 1, 0, none⟩ = some (.bool m2) ∧ w'.cell? ⟨w.heap.size + 1, 1, none⟩ = some (.slice a3 k3 c3) ∧ w'.cell? ⟨w.heap.size + 1, 2, none⟩ = some (.slice a4 k4 c4)) := by
   rintro w1 x y z hb _ rfl
   have Z0 := (((HY0.out.call hb).other (a := ⟨w.heap.size + 1 + 1, 0, none⟩) (by simp; omega) x).other (a := ⟨w.heap.size + 1 + 1, 1, none⟩) (by simp; omega) y).other (a := ⟨w.heap.size + 1 + 1, 2, none⟩) (by simp; omega) z
   have Z1 := (((HY1.out.call hb).other (a := ⟨w.heap.size + 1 + 1, 0, none⟩) (by simp) x).other (a := ⟨w.heap.size + 1 + 1, 1, none⟩) (by simp) y).other (a := ⟨w.heap.size + 1 + 1, 2, none⟩) (by simp) z
   exact ⟨Z0.cell 0, Z0.cell 1, Z0.cell 2, Z1.cell 0, Z1.cell 1, Z1.cell 2⟩
  go_region_held3 (fun w' => w'.cell? ⟨w.heap.size, 0, none⟩ = some (.bool m) ∧ w'.cell? ⟨w.heap.size, 1, none⟩ = some (.slice a1 k1 c1) ∧ w'.cell? ⟨w.heap.size, 2, none⟩ = some (.slice a2 k2 c2) ∧ w'.cell? ⟨w.heap.size + 1, 0, none⟩ = some (.bool m2) ∧ w'.cell? ⟨w.heap.size + 1, 1, none⟩ = some (.slice a3 k3 c3) ∧ w'.cell? ⟨w.heap.size + 1, 2, none⟩ = some (.slice a4 k4 c4))
   (first
    | exact K.out _ (by first | exact bb4.out.drew | exact below_drewN bb4.out _)
    | exact K2.out _ _ _ _ bb6.out _ rfl
    | exact K.out _ bb6.out
    | exact K.out _ bb5.out)
   (first
    | (go_at_call 112; refine (r1_Minus _ _ _ x y (W1.out.call (by first | exact (Below.refl _ _).drew | exact below_drewN (Below.refl _ _) _ | exact Below.refl _ _)) (W2.out.call (by first | exact (Below.refl _ _).drew | exact below_drewN (Below.refl _ _) _ | exact Below.refl _ _)) HLE.out L1.out).mono ?_; rintro e w5 ⟨⟨v5, rfl, hv5⟩, hb5⟩; have bb5 := hid (bnext (by first | exact bb4.out.drew | exact below_drewN bb4.out _ | exact bb4.out) hb5); have V5 := hid hv5; have Z5 := hid ((W3.out.call (Below.refl _ _).drew).call hb5))
    | (go_at_call 111; refine (r2_Reduce _ _ _ _ (x - y) z V5.out Z5.out hD.out LS.out L3.out).mono ?_; rintro e w6 ⟨⟨v6, rfl, hv6⟩, hb6⟩; obtain ⟨N6, D6, rfl, hN6, hD6⟩ := hv6.ex; have bb6 := hid (bnext bb5.out hb6); obtain ⟨a5, c5, rfl, _⟩ := hN6.openI; obtain ⟨a6, c6, rfl, _⟩ := hD6.openI; have HN6 := hid hN6; have HD6 := hid hD6; have Z := hid (HY2.out.call bb6.out); have t0 := Z.out.cell 0; have t1 := Z.out.cell 1; have t2 := Z.out.cell 2; have t3 := Z.out.free 0; have t4 := Z.out.free 1; have t5 := Z.out.free 2; clear hv6 hN6 hD6))
  go_wp2_with fail
  obtain ⟨s1, s2⟩ := set3 Z.out (decide ((qmk m (x - y) z).num < 0)) a5 a6 (limbs (qmk m (x - y) z).num.natAbs).length c5 (limbs (qmk m (x - y) z).den).length c6
  have f0 := s2.cell 0
  have f1 := s2.cell 1
  have f2 := s2.cell 2
  simp at f0 f1 f2
  refine bodyPost_ret (v := .agg #[.bool (decide ((qmk m (x - y) z).num < 0)), .slice a5 (limbs (qmk m (x - y) z).num.natAbs).length c5, .slice a6 (limbs (qmk m (x - y) z).den).length c6]) (by simp [results, Tryz.results58, go_sem, f0, f1, f2]) rfl ⟨⟨_, rfl, ⟨_, _, rfl, s1 _ _ _ HN6.out, s1 _ _ _ HD6.out⟩⟩, ?_⟩
  exact (((HX0.out.trans (bb6.out.mono (Nat.le_trans (Nat.le_refl _) HX0.out.size))).setCell (by simp; omega) _).setCell (by simp; omega) _).setCell (by simp; omega) _
theorem r2_Plus (w : World) (v u : Value) (p q : Rat) (hp : IsQ .i64 w v p) (hq : IsQ .i64 w u q)
 (h1 : (limbs p.num.natAbs).length ≤ 100000) (h2 : (limbs p.den).length ≤ 100000) (h3 : (limbs q.num.natAbs).length ≤ 100000) (h4 : (limbs q.den).length ≤ 100000) :
 Calls Tryz.prog 58 #[v, u] w fun e w' => RetQ .i64 (p + q) e w' ∧ Below w.heap.size w w' := by
 obtain ⟨N1, D1, rfl, hn1, hd1⟩ := hp.ex
 obtain ⟨N2, D2, rfl, hn2, hd2⟩ := hq.ex
 have he := q_add p q
 have hw := fun m s key => r2_Plus_walk w (decide (p.num < 0)) (decide (q.num < 0)) m N1 D1 N2 D2 _ _ _ _ s hn1 hd1 hn2 hd2 h1 h2 h3 h4 p.den_pos q.den_pos key
 rw [he]
 generalize decide (p.num < 0) = m1 at *
 generalize decide (q.num < 0) = m2 at *
 by_cases hm : m1 = m2
 ·subst hm
  rw [sgn_same]
  exact hw m1 _ (.inl ⟨rfl, rfl, rfl⟩)
 ·have hm' : (m1 == m2) = false := by simpa using hm
  rcases Nat.lt_or_ge (p.num.natAbs * q.den) (q.num.natAbs * p.den) with hl | hl
  ·rw [sgn_less hm hl]
   exact hw m2 _ (.inr (.inl ⟨hm', hl, rfl, rfl⟩))
  ·rw [sgn_more hm hl]
   exact hw m1 _ (.inr (.inr ⟨hm', hl, rfl, rfl⟩))
theorem r2_Times (w : World) (v u : Value) (p q : Rat) (hp : IsQ .i64 w v p) (hq : IsQ .i64 w u q)
 (h1 : (limbs p.num.natAbs).length ≤ 100000) (h2 : (limbs p.den).length ≤ 100000) (h3 : (limbs q.num.natAbs).length ≤ 100000) (h4 : (limbs q.den).length ≤ 100000) :
 Calls Tryz.prog 105 #[v, u] w fun e w' => RetQ .i64 (p * q) e w' ∧ Below w.heap.size w w' := by
 have HQ := hid (qmk_mul p q)
 rw [← HQ.out]
 have hD := hid (Nat.mul_pos p.den_pos q.den_pos)
 obtain ⟨N1, D1, rfl, hn1, hd1⟩ := hp.ex
 obtain ⟨N2, D2, rfl, hn2, hd2⟩ := hq.ex
 clear hp hq HQ
 generalize decide (p.num < 0) = m1 at *
 generalize decide (q.num < 0) = m2 at *
 generalize p.num.natAbs = n1 at *
 generalize q.num.natAbs = n2 at *
 generalize p.den = d1 at *
 generalize q.den = d2 at *
 have HN1 := hid hn1; have HD1 := hid hd1; have HN2 := hid hn2; have HD2 := hid hd2
 have L1 := hid (Nat.le_trans (limbs_mul h1 h3) (show 100000 + 100000 ≤ 1000000 by omega))
 have L2 := hid (Nat.le_trans (limbs_mul h2 h4) (show 100000 + 100000 ≤ 1000000 by omega))
 have H1 := hid (Nat.le_trans h1 (show 100000 ≤ 1000000 by omega))
 have H2 := hid (Nat.le_trans h2 (show 100000 ≤ 1000000 by omega))
 have H3 := hid (Nat.le_trans h3 (show 100000 ≤ 1000000 by omega))
 have H4 := hid (Nat.le_trans h4 (show 100000 ≤ 1000000 by omega))
 clear h1 h2 h3 h4
 obtain ⟨a1, c1, rfl, _⟩ := hn1.openI
 obtain ⟨a2, c2, rfl, _⟩ := hd1.openI
 obtain ⟨a3, c3, rfl, _⟩ := hn2.openI
 obtain ⟨a4, c4, rfl, _⟩ := hd2.openI
 clear hn1 hd1 hn2 hd2
 go_enter Tryz.func105, Tryz.ntmps105
 go_wp2_with fail
 obtain ⟨W, hW⟩ : ∃ W, ((w.alloc (.cells #[.bool m1, .slice a1 (limbs n1).length c1, .slice a2 (limbs d1).length c2] 79)).alloc (.cells #[.bool m2, .slice a3 (limbs n2).length c3, .slice a4 (limbs d2).length c4] 79)).alloc (.cells #[.bool false, .slice none 0 0, .slice none 0 0] 79) = W := ⟨_, rfl⟩
 rw [hW]
 have X0 : Below w.heap.size w W := by rw [← hW]; exact (((Below.refl _ _).alloc (Nat.le_refl _) _).alloc (by simp) _).alloc (by simp; omega) _
 have Y0 : Blk W w.heap.size #[.bool m1, .slice a1 (limbs n1).length c1, .slice a2 (limbs d1).length c2] 79 := by rw [← hW]; exact ((Blk.new w _ _).alloc _).alloc _
 have Y1 : Blk W (w.heap.size + 1) #[.bool m2, .slice a3 (limbs n2).length c3, .slice a4 (limbs d2).length c4] 79 := by rw [← hW]; exact (Blk.made (w.alloc _) _ _ (by simp)).alloc _
 have Y2 : Blk W (w.heap.size + 1 + 1) #[.bool false, .slice none 0 0, .slice none 0 0] 79 := by rw [← hW]; exact Blk.made ((w.alloc _).alloc _) _ _ (by simp)
 have K0 : ∀ w', Blk w' w.heap.size #[.bool m1, .slice a1 (limbs n1).length c1, .slice a2 (limbs d1).length c2] 79 → Blk w' (w.heap.size + 1) #[.bool m2, .slice a3 (limbs n2).length c3, .slice a4 (limbs d2).length c4] 79 →
  w'.cell? ⟨w.heap.size, 0, none⟩ = some (.bool m1) ∧ w'.cell? ⟨w.heap.size, 1, none⟩ = some (.slice a1 (limbs n1).length c1) ∧ w'.cell? ⟨w.heap.size, 2, none⟩ = some (.slice a2 (limbs d1).length c2) ∧
  w'.cell? ⟨w.heap.size + 1, 0, none⟩ = some (.bool m2) ∧ w'.cell? ⟨w.heap.size + 1, 1, none⟩ = some (.slice a3 (limbs n2).length c3) ∧ w'.cell? ⟨w.heap.size + 1, 2, none⟩ = some (.slice a4 (limbs d2).length c4) :=
  fun w' y0 y1 => ⟨y0.cell 0, y0.cell 1, y0.cell 2, y1.cell 0, y1.cell 1, y1.cell 2⟩
 have K : Hid (∀ w', Below W.heap.size W w' → w'.cell? ⟨w.heap.size, 0, none⟩ = some (.bool m1) ∧ w'.cell? ⟨w.heap.size, 1, none⟩ = some (.slice a1 (limbs n1).length c1) ∧ w'.cell? ⟨w.heap.size, 2, none⟩ = some (.slice a2 (limbs d1).length c2) ∧
  w'.cell? ⟨w.heap.size + 1, 0, none⟩ = some (.bool m2) ∧ w'.cell? ⟨w.heap.size + 1, 1, none⟩ = some (.slice a3 (limbs n2).length c3) ∧ w'.cell? ⟨w.heap.size + 1, 2, none⟩ = some (.slice a4 (limbs d2).length c4)) := fun w' hb => K0 w' (Y0.call hb) (Y1.call hb)
 have K2 : Hid (∀ w1 x y z, Below W.heap.size W w1 → ∀ w', ((w1.setCell ⟨w.heap.size + 1 + 1, 0, none⟩ x).setCell ⟨w.heap.size + 1 + 1, 1, none⟩ y).setCell ⟨w.heap.size + 1 + 1, 2, none⟩ z = w' → w'.cell? ⟨w.heap.size, 0, none⟩ = some (.bool m1) ∧ w'.cell? ⟨w.heap.size, 1, none⟩ = some (.slice a1 (limbs n1).length c1) ∧ w'.cell? ⟨w.heap.size, 2, none⟩ = some (.slice a2 (limbs d1).length c2) ∧
  w'.cell? ⟨w.heap.size + 1, 0, none⟩ = some (.bool m2) ∧ w'.cell? ⟨w.heap.size + 1, 1, none⟩ = some (.slice a3 (limbs n2).length c3) ∧ w'.cell? ⟨w.heap.size + 1, 2, none⟩ = some (.slice a4 (limbs d2).length c4)) := by
  rintro w1 x y z hb _ rfl
  exact K0 _ ((((Y0.call hb).other (by simp; omega) _).other (by simp; omega) _).other (by simp; omega) _) ((((Y1.call hb).other (by simp) _).other (by simp) _).other (by simp) _)
 have HY2 := hid Y2; have HX0 := hid X0
 obtain ⟨k0, k1, k2, k3, k4, k5⟩ := K W (Below.refl _ _)
 clear K0
 clear Y0 Y1 Y2 X0 hW
 have XN1 := hid (HN1.out.call HX0.out); have XD1 := hid (HD1.out.call HX0.out); have XN2 := hid (HN2.out.call HX0.out); have XD2 := hid (HD2.out.call HX0.out)
 go_region_held3 (fun w' => w'.cell? ⟨w.heap.size, 0, none⟩ = some (.bool m1) ∧ w'.cell? ⟨w.heap.size, 1, none⟩ = some (.slice a1 (limbs n1).length c1) ∧ w'.cell? ⟨w.heap.size, 2, none⟩ = some (.slice a2 (limbs d1).length c2) ∧
  w'.cell? ⟨w.heap.size + 1, 0, none⟩ = some (.bool m2) ∧ w'.cell? ⟨w.heap.size + 1, 1, none⟩ = some (.slice a3 (limbs n2).length c3) ∧ w'.cell? ⟨w.heap.size + 1, 2, none⟩ = some (.slice a4 (limbs d2).length c4))
  (first
   | exact K.out _ (Below.refl _ _).drew
   | exact K2.out _ _ _ _ B3.out _ rfl
   | exact K.out _ B3.out
   | exact K.out _ B2.out
   | exact K.out _ B1.out)
  (first
   | (go_at_call_of 110 (Value.slice a1 (limbs n1).length c1); refine (r1_Times _ _ _ n1 n2 (XN1.out.call (by first | exact B2.out | exact (Below.refl _ _).drew)) (XN2.out.call (by first | exact B2.out | exact (Below.refl _ _).drew)) H1.out H3.out).mono ?_; rintro e w1 ⟨⟨v1, rfl, hv1⟩, hb1⟩; have B1 := hid (bnext (by first | exact B2.out | exact (Below.refl _ _).drew) hb1))
   | (go_at_call_of 110 (Value.slice a2 (limbs d1).length c2); refine (r1_Times _ _ _ d1 d2 (XD1.out.call (by first | exact B1.out | exact (Below.refl _ _).drew)) (XD2.out.call (by first | exact B1.out | exact (Below.refl _ _).drew)) H2.out H4.out).mono ?_; rintro e w2 ⟨⟨v2, rfl, hv2⟩, hb2⟩; have B2 := hid (bnext (by first | exact B1.out | exact (Below.refl _ _).drew) hb2))
   | (go_at_call 111; refine (r2_Reduce _ _ _ _ (n1 * n2) (d1 * d2) (by first | exact hv1 | exact hv1.call hb2) (by first | exact hv2 | exact hv2.call hb1) hD.out L1.out L2.out).mono ?_; rintro e w3 ⟨⟨v3, rfl, hv3⟩, hb3⟩; obtain ⟨N3, D3, rfl, hN3, hD3⟩ := hv3.ex; have B3 := hid (bnext (by first | exact B2.out | exact B1.out) hb3); obtain ⟨a5, c5, rfl, _⟩ := hN3.openI; obtain ⟨a6, c6, rfl, _⟩ := hD3.openI; have HN3 := hid hN3; have HD3 := hid hD3; have Z := hid (HY2.out.call B3.out); have t0 := Z.out.cell 0; have t1 := Z.out.cell 1; have t2 := Z.out.cell 2; have t3 := Z.out.free 0; have t4 := Z.out.free 1; have t5 := Z.out.free 2; clear hv3 hN3 hD3))
 have hbn : (!(m1 == m2)) = (m1 != m2) := rfl
 rw [hbn] at *
 go_wp2_with fail
 obtain ⟨s1, s2⟩ := set3 Z.out (decide ((qmk (m1 != m2) (n1 * n2) (d1 * d2)).num < 0)) a5 a6 (limbs (qmk (m1 != m2) (n1 * n2) (d1 * d2)).num.natAbs).length c5 (limbs (qmk (m1 != m2) (n1 * n2) (d1 * d2)).den).length c6
 have f0 := s2.cell 0
 have f1 := s2.cell 1
 have f2 := s2.cell 2
 simp at f0 f1 f2
 refine bodyPost_ret (v := .agg #[.bool (decide ((qmk (m1 != m2) (n1 * n2) (d1 * d2)).num < 0)), .slice a5 (limbs (qmk (m1 != m2) (n1 * n2) (d1 * d2)).num.natAbs).length c5, .slice a6 (limbs (qmk (m1 != m2) (n1 * n2) (d1 * d2)).den).length c6]) (by simp [results, Tryz.results105, go_sem, f0, f1, f2]) rfl ⟨⟨_, rfl, ⟨_, _, rfl, s1 _ _ _ HN3.out, s1 _ _ _ HD3.out⟩⟩, ?_⟩
 exact (((HX0.out.trans (B3.out.mono (Nat.le_trans (Nat.le_refl _) HX0.out.size))).setCell (by simp; omega) _).setCell (by simp; omega) _).setCell (by simp; omega) _
open Go.Lib (decDigits nDigits)
def Qv (v : Value) : Prop := ∃ (m : Bool) (a : Option Addr) (n c : Nat) (a' : Option Addr) (n' c' : Nat), v = .agg #[.bool m, .slice a n c, .slice a' n' c']
theorem IsQ.qv {k : IntKind} {w : World} {v : Value} {q : Rat} (h : IsQ k w v q) : Qv v := by
 obtain ⟨N, D, rfl, h1, h2⟩ := h.ex
 obtain ⟨a1, c1, rfl, _⟩ := h1.openI
 obtain ⟨a2, c2, rfl, _⟩ := h2.openI
 exact ⟨_, _, _, _, _, _, _, rfl⟩
theorem RetQE.open {s : ByteArray} {e : Ending} {w' : World} (h : RetQE s e w') : ∃ (m : Bool) (a : Option Addr) (n c : Nat) (a' : Option Addr) (n' c' : Nat), e = .returned (.tuple #[.agg #[.bool m, .slice a n c, .slice a' n' c'], .int .i64 (qE s)]) ∧ (qE s = 0 → IsQ .i64 w' (.agg #[.bool m, .slice a n c, .slice a' n' c']) (vQ s)) ∧ (qE s ≠ 0 → m = false ∧ a = none ∧ n = 0 ∧ c = 0 ∧ a' = none ∧ n' = 0 ∧ c' = 0) := by
 obtain ⟨v, rfl, h1, h2⟩ := h
 by_cases h0 : qE s = 0
 ·obtain ⟨m, a, n, c, a', n', c', rfl⟩ := (h1 h0).qv
  exact ⟨m, a, n, c, a', n', c', rfl, h1, fun h => absurd h0 h⟩
 ·obtain rfl := h2 h0
  exact ⟨_, _, _, _, _, _, _, rfl, h1, fun _ => ⟨rfl, rfl, rfl, rfl, rfl, rfl, rfl⟩⟩
theorem IsQ.keep {k : IntKind} {w w' : World} {v : Value} {q : Rat} (h : IsQ k w v q) (f : ∀ k v x, IsN k w v x → IsN k w' v x) : IsQ k w' v q := by
 obtain ⟨N, D, rfl, h1, h2⟩ := h.ex
 exact ⟨N, D, rfl, f _ _ _ h1, f _ _ _ h2⟩
theorem IsN.drew {k : IntKind} {w : World} {v : Value} {n : Nat} (h : IsN k w v n) : IsN k w.drew v n := Row.drew h
def RetTwo (s t : ByteArray) (e : Ending) (w' : World) : Prop := ∃ (m : Bool) (a : Option Addr) (n c : Nat) (a' : Option Addr) (n' c' : Nat) (m2 : Bool) (b : Option Addr) (j d : Nat) (b' : Option Addr) (j' d' : Nat),
 e = .returned (.tuple #[.agg #[.bool m, .slice a n c, .slice a' n' c'], .agg #[.bool m2, .slice b j d, .slice b' j' d'], .int .i64 (if qE s = 0 then qE t else qE s)]) ∧
 (qE s = 0 → qE t = 0 → IsQ .i64 w' (.agg #[.bool m, .slice a n c, .slice a' n' c']) (vQ s) ∧ IsQ .i64 w' (.agg #[.bool m2, .slice b j d, .slice b' j' d']) (vQ t))
theorem r2_two (w : World) (s t : ByteArray) (hs : s.size ≤ 1000000) (ht : t.size ≤ 1000000) :
 Calls Tryz.prog 56 #[.string s, .string t] w fun e w' => RetTwo s t e w' ∧ Below w.heap.size w w' := by
 have R1 := fun V => hid (r2_Read V s hs)
 have R2 := fun V => hid (r2_Read V t ht)
 have t0 := hid (Blk.new w #[.bool false, .slice none 0 0, .slice none 0 0] 79)
 have t1 := hid ((Below.refl w.heap.size w).alloc (Nat.le_refl _) (.cells #[.bool false, .slice none 0 0, .slice none 0 0] 79))
 have u0 := hid ((Blk.new w #[.bool false, .slice none 0 0, .slice none 0 0] 79).alloc (.cells #[.bool false, .slice none 0 0, .slice none 0 0] 79))
 have u1 := hid (Blk.made (w.alloc (.cells #[.bool false, .slice none 0 0, .slice none 0 0] 79)) #[.bool false, .slice none 0 0, .slice none 0 0] 79 (n := w.heap.size + 1) (by simp))
 have u2 := hid (t1.out.alloc (by simp) (.cells #[.bool false, .slice none 0 0, .slice none 0 0] 79))
 clear hs ht t0 t1
 go_enter Tryz.func56, Tryz.ntmps56
 go_wp2_with fail
 refine (R1 _).out.mono ?_; rintro e w1 ⟨hr1, hb1⟩
 obtain ⟨m, a, n, c, a', n', c', rfl, h1, h2⟩ := hr1.open
 have v0 := hid (u0.out.call hb1); have v1 := hid (u1.out.call hb1); have v2 := hid (bnext u2.out hb1)
 have l1 := v1.out.lt
 have n1 : (w1.heap.size = w.heap.size) = False := by simp; omega
 have n2 : (w.heap.size = w1.heap.size) = False := by simp; omega
 have n3 : (w1.heap.size = w.heap.size + 1) = False := by simp; omega
 have n4 : (w.heap.size + 1 = w1.heap.size) = False := by simp; omega
 obtain ⟨x, hx⟩ : ∃ x, qE s = x := ⟨_, rfl⟩
 have HXX := hid hx
 by_cases h0 : x = 0
 ·subst h0
  rw [hx]
  have Q1 := hid (h1 hx)
  clear h1 h2 hr1 hb1 R1 hx
  have X7 := hid (Blk.new w1 #[.bool m, .slice a n c, .slice a' n' c'] 79)
  have b7 := hid ((Below.refl w1.heap.size w1).alloc (Nat.le_refl _) (.cells #[.bool m, .slice a n c, .slice a' n' c'] 79))
  have x0 := hid (v0.out.call b7.out); have x1 := hid (v1.out.call b7.out); have x2 := hid (bnext v2.out b7.out); have Q2 := hid (Q1.out.call b7.out)
  clear v0 v1 v2 Q1 b7
  go_wp2_with fail
  refine (R2 _).out.mono ?_; rintro e w2 ⟨hr2, hb2⟩
  obtain ⟨m2, b, j, d, b', j', d', rfl, k1, k2⟩ := hr2.open
  have y0 := hid (x0.out.call hb2); have y1 := hid (x1.out.call hb2); have y2 := hid (bnext x2.out hb2); have y7 := hid (X7.out.call hb2); have Q3 := hid (Q2.out.call hb2)
  have K1 := hid k1
  clear x0 x1 x2 X7 Q2 hb2 hr2 k1 k2 R2
  have l2 := y7.out.lt
  have n5 : (w2.heap.size = w.heap.size) = False := by simp; omega
  have n6 : (w.heap.size = w2.heap.size) = False := by simp; omega
  have n7 : (w2.heap.size = w.heap.size + 1) = False := by simp; omega
  have n8 : (w.heap.size + 1 = w2.heap.size) = False := by simp; omega
  clear l1 l2
  obtain ⟨z, hz⟩ : ∃ z, qE t = z := ⟨_, rfl⟩
  have HZ := hid hz
  rw [hz]
  clear hz
  have X9 := hid (Blk.new w2 #[.bool m2, .slice b j d, .slice b' j' d'] 79)
  have b9 := hid ((Below.refl w2.heap.size w2).alloc (Nat.le_refl _) (.cells #[.bool m2, .slice b j d, .slice b' j' d'] 79))
  have z0 := hid (y0.out.call b9.out); have z1 := hid (y1.out.call b9.out); have z2 := hid (bnext y2.out b9.out); have z7 := hid (y7.out.call b9.out); have Q4 := hid (Q3.out.call b9.out)
  have K2 := fun h => hid ((K1.out h).call b9.out)
  clear y0 y1 y2 y7 Q3 b9 K1
  have HH1 := z0.out.cell 0
  have HH2 := z0.out.cell 1
  have HH3 := z0.out.cell 2
  have HH4 := z0.out.free 0
  have HH5 := z0.out.free 1
  have HH6 := z0.out.free 2
  have KK1 := z1.out.cell 0
  have KK2 := z1.out.cell 1
  have KK3 := z1.out.cell 2
  have KK4 := z1.out.free 0
  have KK5 := z1.out.free 1
  have KK6 := z1.out.free 2
  have JJ1 := z7.out.cell 0
  have JJ2 := z7.out.cell 1
  have JJ3 := z7.out.cell 2
  simp at HH1 HH2 HH3 KK1 KK2 KK3 JJ1 JJ2 JJ3
  have II1 := X9.out.cell 0
  have II2 := X9.out.cell 1
  have II3 := X9.out.cell 2
  simp at II1 II2 II3
  go_wp2_with fail
  go_region
  obtain ⟨p1, p2⟩ := set3 z0.out m a a' n c n' c'
  have r1 := ((z1.out.other (a := ⟨w.heap.size, 0, none⟩) (by simp) (.bool m)).other (a := ⟨w.heap.size, 1, none⟩) (by simp) (.slice a n c)).other (a := ⟨w.heap.size, 2, none⟩) (by simp) (.slice a' n' c')
  obtain ⟨p3, p4⟩ := set3 r1 m2 b b' j d j' d'
  have p5 := ((p2.other (a := ⟨w.heap.size + 1, 0, none⟩) (by simp) (.bool m2)).other (a := ⟨w.heap.size + 1, 1, none⟩) (by simp) (.slice b j d)).other (a := ⟨w.heap.size + 1, 2, none⟩) (by simp) (.slice b' j' d')
  have f0 := p5.drew.cell 0
  have f1 := p5.drew.cell 1
  have f2 := p5.drew.cell 2
  have g0 := p4.drew.cell 0
  have g1 := p4.drew.cell 1
  have g2 := p4.drew.cell 2
  simp at f0 f1 f2 g0 g1 g2
  go_wp2_with fail
  refine bodyPost_ret (v := .tuple #[.agg #[.bool m, .slice a n c, .slice a' n' c'], .agg #[.bool m2, .slice b j d, .slice b' j' d'], .int .i64 z]) (by simp [results, Tryz.results56, go_sem, f0, f1, f2, g0, g1, g2]) rfl ⟨⟨m, a, n, c, a', n', c', m2, b, j, d, b', j', d', by rw [if_pos HXX.out, HZ.out], fun h1 h2 => ⟨(Q4.out.keep fun k v x h => (p3 _ _ _ (p1 _ _ _ h)).drew), ((K2 h2).out.keep fun k v x h => (p3 _ _ _ (p1 _ _ _ h)).drew)⟩⟩, ?_⟩
  exact ((((((z2.out.setCell (Nat.le_refl _) _).setCell (Nat.le_refl _) _).setCell (Nat.le_refl _) _).setCell (Nat.le_succ _) _).setCell (Nat.le_succ _) _).setCell (Nat.le_succ _) _).drew
 ·rw [hx]
  have q0 : (x != 0) = true := by simpa using h0
  obtain ⟨rfl, rfl, rfl, rfl, rfl, rfl, rfl⟩ := h2 (by rw [hx]; exact h0)
  have H0 := hid h0
  clear h1 h2 hr1 hb1 R1 R2 hx h0
  have X7 := hid (Blk.new w1 #[.bool false, .slice none 0 0, .slice none 0 0] 79)
  have b7 := hid ((Below.refl w1.heap.size w1).alloc (Nat.le_refl _) (.cells #[.bool false, .slice none 0 0, .slice none 0 0] 79))
  have x0 := hid (v0.out.call b7.out); have x1 := hid (v1.out.call b7.out); have x2 := hid (bnext v2.out b7.out)
  clear v0 v1 v2 b7
  have HH1 := x0.out.cell 0
  have HH2 := x0.out.cell 1
  have HH3 := x0.out.cell 2
  have HH4 := x0.out.free 0
  have HH5 := x0.out.free 1
  have HH6 := x0.out.free 2
  have KK1 := x1.out.cell 0
  have KK2 := x1.out.cell 1
  have KK3 := x1.out.cell 2
  have KK4 := x1.out.free 0
  have KK5 := x1.out.free 1
  have KK6 := x1.out.free 2
  have JJ1 := X7.out.cell 0
  have JJ2 := X7.out.cell 1
  have JJ3 := X7.out.cell 2
  simp at HH1 HH2 HH3 KK1 KK2 KK3 JJ1 JJ2 JJ3
  go_wp2_with fail
  go_region
  obtain ⟨p1, p2⟩ := set3 x0.out false none none 0 0 0 0
  have r1 := ((x1.out.other (a := ⟨w.heap.size, 0, none⟩) (by simp) (.bool false)).other (a := ⟨w.heap.size, 1, none⟩) (by simp) (.slice none 0 0)).other (a := ⟨w.heap.size, 2, none⟩) (by simp) (.slice none 0 0)
  obtain ⟨p3, p4⟩ := set3 r1 false none none 0 0 0 0
  have p5 := ((p2.other (a := ⟨w.heap.size + 1, 0, none⟩) (by simp) (.bool false)).other (a := ⟨w.heap.size + 1, 1, none⟩) (by simp) (.slice none 0 0)).other (a := ⟨w.heap.size + 1, 2, none⟩) (by simp) (.slice none 0 0)
  have f0 := p5.drew.cell 0
  have f1 := p5.drew.cell 1
  have f2 := p5.drew.cell 2
  have g0 := p4.drew.cell 0
  have g1 := p4.drew.cell 1
  have g2 := p4.drew.cell 2
  simp at f0 f1 f2 g0 g1 g2
  go_wp2_with fail
  refine bodyPost_ret (v := .tuple #[.agg #[.bool false, .slice none 0 0, .slice none 0 0], .agg #[.bool false, .slice none 0 0, .slice none 0 0], .int .i64 x]) (by simp [results, Tryz.results56, go_sem, f0, f1, f2, g0, g1, g2]) rfl ⟨⟨false, none, 0, 0, none, 0, 0, false, none, 0, 0, none, 0, 0, by rw [if_neg (by rw [HXX.out]; exact H0.out), HXX.out], fun h1 => absurd (HXX.out.symm.trans h1) H0.out⟩, ?_⟩
  exact ((((((x2.out.setCell (Nat.le_refl _) _).setCell (Nat.le_refl _) _).setCell (Nat.le_refl _) _).setCell (Nat.le_succ _) _).setCell (Nat.le_succ _) _).setCell (Nat.le_succ _) _).drew
theorem dig_of {q : Rat} {K : Nat} (h1 : nDigits q.num.natAbs ≤ K) (h2 : nDigits q.den ≤ K) : Dig K q :=
 ⟨Nat.lt_of_lt_of_le (Go.Lib.lt_pow_nDigits _) (Nat.pow_le_pow_right (by omega) h1), Nat.lt_of_lt_of_le (Go.Lib.lt_pow_nDigits _) (Nat.pow_le_pow_right (by omega) h2)⟩
theorem dig_of_fits {q : Rat} (h : ¬ ovQ q) : Dig 4000 q := by
 unfold ovQ at h
 exact dig_of (by omega) (by omega)
theorem Dig.limbs {K L : Nat} {q : Rat} (h : Dig K q) (h0 : 0 < K) (hl : K ≤ 9 * L) : (limbs q.num.natAbs).length ≤ L ∧ (limbs q.den).length ≤ L :=
 ⟨limbs_digits (Nat.le_trans (nDigits_le h0 h.n) hl), limbs_digits (Nat.le_trans (nDigits_le h0 h.d) hl)⟩
def OpOk (F : Nat) (f : Rat → Rat → Rat) : Prop := ∀ (w : World) (v u : Value) (p q : Rat), IsQ .i64 w v p → IsQ .i64 w u q → Dig 4000 p → Dig 4000 q →
 Calls Tryz.prog F #[v, u] w fun e w' => RetQ .i64 (f p q) e w' ∧ Below w.heap.size w w'
theorem op_plus : OpOk 58 (· + ·) := fun w v u p q hp hq h1 h2 => by
 have l1 := h1.limbs (L := 100000) (by omega) (by omega)
 have l2 := h2.limbs (L := 100000) (by omega) (by omega)
 exact r2_Plus w v u p q hp hq l1.1 l1.2 l2.1 l2.2
theorem op_times : OpOk 105 (· * ·) := fun w v u p q hp hq h1 h2 => by
 have l1 := h1.limbs (L := 100000) (by omega) (by omega)
 have l2 := h2.limbs (L := 100000) (by omega) (by omega)
 exact r2_Times w v u p q hp hq l1.1 l1.2 l2.1 l2.2
theorem r2_Add (w : World) (s t : ByteArray) (hs : s.size ≤ 1000000) (ht : t.size ≤ 1000000) :
 Calls Tryz.prog 27 #[.string s, .string t] w fun e w' => e = .returned (.tuple #[.string (op2B (· + ·) s t), .int .i64 (op2E (· + ·) s t)]) ∧ Below w.heap.size w w' := by
 have R1 := fun V => hid (r2_two V s t hs ht)
 clear hs ht
 by_cases h0 : qE s = 0 ∧ qE t = 0
 ·have eB : op2B (· + ·) s t = outB (vQ s + vQ t) := by rw [op2B, if_pos h0]
  have eE : op2E (· + ·) s t = outE (vQ s + vQ t) := by rw [op2E, if_pos h0.1, if_pos h0.2]
  rw [eB, eE]
  have ds := dig_of_fits (vQ_fits h0.1)
  have dt := dig_of_fits (vQ_fits h0.2)
  have dl := hid ((dig_add ds dt).limbs (L := 1000000) (by omega) (by omega))
  have HO := fun V v u hp hq => hid (op_plus V v u (vQ s) (vQ t) hp hq ds dt)
  have HW := fun V v h => hid (r2_Write V v (vQ s + vQ t) h dl.out.1 dl.out.2)
  obtain ⟨oB, hB⟩ : ∃ x, outB (vQ s + vQ t) = x := ⟨_, rfl⟩
  obtain ⟨oE, hE⟩ : ∃ x, outE (vQ s + vQ t) = x := ⟨_, rfl⟩
  rw [hB, hE] at HW
  rw [hB, hE]
  have H0 := hid h0
  clear eB eE ds dt dl hB hE h0
  go_enter Tryz.func27, Tryz.ntmps27
  go_wp2_with fail
  refine (R1 _).out.mono ?_; rintro e w1 ⟨⟨m, a, n, c, a', n', c', m2, b, j, d, b', j', d', rfl, hq⟩, hb1⟩
  obtain ⟨q1, q2⟩ := hq H0.out.1 H0.out.2
  rw [if_pos H0.out.1, H0.out.2]
  have b0 := ((Below.refl w1.heap.size w1).alloc (Nat.le_refl _) (.cells #[.bool m, .slice a n c, .slice a' n' c'] 79)).alloc (by simp) (.cells #[.bool m2, .slice b j d, .slice b' j' d'] 79)
  have y2 := hid (bnext hb1 b0)
  have H1 := HO _ _ _ (q1.call b0) (q2.call b0)
  clear hb1 q1 q2 hq b0 HO R1
  go_wp2_with fail
  refine H1.out.mono ?_; rintro e w2 ⟨⟨v, rfl, hv⟩, hb2⟩
  have y3 := hid (bnext y2.out hb2)
  have H2 := HW _ _ hv
  obtain ⟨m3, a3, n3, c3, a4, n4, c4, rfl⟩ := hv.qv
  clear hv hb2 HW H1
  go_wp2_with fail
  refine H2.out.mono ?_; rintro e w3 ⟨rfl, hb3⟩
  have y4 := hid (bnext y3.out hb3)
  clear hb3 H2
  go_wp2_with fail
  go_ret2
  exact ⟨rfl, y4.out⟩
 ·have n0 : (if qE s = 0 then qE t else qE s) ≠ 0 := by
   split
   ·rename_i h; exact fun e => h0 ⟨h, e⟩
   ·rename_i h; exact h
  have eB : op2B (· + ·) s t = ⟨#[]⟩ := by rw [op2B, if_neg h0]
  have eE : op2E (· + ·) s t = if qE s = 0 then qE t else qE s := by
   rw [op2E]
   split
   ·rename_i h; rw [if_neg (fun e => h0 ⟨h, e⟩)]
   ·rfl
  rw [eB, eE]
  obtain ⟨x, hx⟩ : ∃ x, (if qE s = 0 then qE t else qE s) = x := ⟨_, rfl⟩
  rw [hx] at n0 ⊢
  have q0 : (x != 0) = true := by simpa using n0
  have HX := hid hx
  clear h0 n0 eB eE hx
  go_enter Tryz.func27, Tryz.ntmps27
  go_wp2_with fail
  refine (R1 _).out.mono ?_; rintro e w1 ⟨⟨m, a, n, c, a', n', c', m2, b, j, d, b', j', d', rfl, -⟩, hb1⟩
  rw [HX.out]
  have y1 := hid hb1
  have y2 := hid ((hb1.alloc hb1.size (.cells #[.bool m, .slice a n c, .slice a' n' c'] 79)).alloc (Nat.le_trans hb1.size (by simp)) (.cells #[.bool m2, .slice b j d, .slice b' j' d'] 79))
  clear hb1
  go_wp2_with fail
  go_ret2
  exact ⟨rfl, y2.out⟩
theorem r2_Mul (w : World) (s t : ByteArray) (hs : s.size ≤ 1000000) (ht : t.size ≤ 1000000) :
 Calls Tryz.prog 49 #[.string s, .string t] w fun e w' => e = .returned (.tuple #[.string (op2B (· * ·) s t), .int .i64 (op2E (· * ·) s t)]) ∧ Below w.heap.size w w' := by
 have R1 := fun V => hid (r2_two V s t hs ht)
 clear hs ht
 by_cases h0 : qE s = 0 ∧ qE t = 0
 ·have eB : op2B (· * ·) s t = outB (vQ s * vQ t) := by rw [op2B, if_pos h0]
  have eE : op2E (· * ·) s t = outE (vQ s * vQ t) := by rw [op2E, if_pos h0.1, if_pos h0.2]
  rw [eB, eE]
  have ds := dig_of_fits (vQ_fits h0.1)
  have dt := dig_of_fits (vQ_fits h0.2)
  have dl := hid ((dig_mul ds dt).limbs (L := 1000000) (by omega) (by omega))
  have HO := fun V v u hp hq => hid (op_times V v u (vQ s) (vQ t) hp hq ds dt)
  have HW := fun V v h => hid (r2_Write V v (vQ s * vQ t) h dl.out.1 dl.out.2)
  obtain ⟨oB, hB⟩ : ∃ x, outB (vQ s * vQ t) = x := ⟨_, rfl⟩
  obtain ⟨oE, hE⟩ : ∃ x, outE (vQ s * vQ t) = x := ⟨_, rfl⟩
  rw [hB, hE] at HW
  rw [hB, hE]
  have H0 := hid h0
  clear eB eE ds dt dl hB hE h0
  go_enter Tryz.func49, Tryz.ntmps49
  go_wp2_with fail
  refine (R1 _).out.mono ?_; rintro e w1 ⟨⟨m, a, n, c, a', n', c', m2, b, j, d, b', j', d', rfl, hq⟩, hb1⟩
  obtain ⟨q1, q2⟩ := hq H0.out.1 H0.out.2
  rw [if_pos H0.out.1, H0.out.2]
  have b0 := ((Below.refl w1.heap.size w1).alloc (Nat.le_refl _) (.cells #[.bool m, .slice a n c, .slice a' n' c'] 79)).alloc (by simp) (.cells #[.bool m2, .slice b j d, .slice b' j' d'] 79)
  have y2 := hid (bnext hb1 b0)
  have H1 := HO _ _ _ (q1.call b0) (q2.call b0)
  clear hb1 q1 q2 hq b0 HO R1
  go_wp2_with fail
  refine H1.out.mono ?_; rintro e w2 ⟨⟨v, rfl, hv⟩, hb2⟩
  have y3 := hid (bnext y2.out hb2)
  have H2 := HW _ _ hv
  obtain ⟨m3, a3, n3, c3, a4, n4, c4, rfl⟩ := hv.qv
  clear hv hb2 HW H1
  go_wp2_with fail
  refine H2.out.mono ?_; rintro e w3 ⟨rfl, hb3⟩
  have y4 := hid (bnext y3.out hb3)
  clear hb3 H2
  go_wp2_with fail
  go_ret2
  exact ⟨rfl, y4.out⟩
 ·have n0 : (if qE s = 0 then qE t else qE s) ≠ 0 := by
   split
   ·rename_i h; exact fun e => h0 ⟨h, e⟩
   ·rename_i h; exact h
  have eB : op2B (· * ·) s t = ⟨#[]⟩ := by rw [op2B, if_neg h0]
  have eE : op2E (· * ·) s t = if qE s = 0 then qE t else qE s := by
   rw [op2E]
   split
   ·rename_i h; rw [if_neg (fun e => h0 ⟨h, e⟩)]
   ·rfl
  rw [eB, eE]
  obtain ⟨x, hx⟩ : ∃ x, (if qE s = 0 then qE t else qE s) = x := ⟨_, rfl⟩
  rw [hx] at n0 ⊢
  have q0 : (x != 0) = true := by simpa using n0
  have HX := hid hx
  clear h0 n0 eB eE hx
  go_enter Tryz.func49, Tryz.ntmps49
  go_wp2_with fail
  refine (R1 _).out.mono ?_; rintro e w1 ⟨⟨m, a, n, c, a', n', c', m2, b, j, d, b', j', d', rfl, -⟩, hb1⟩
  rw [HX.out]
  have y1 := hid hb1
  have y2 := hid ((hb1.alloc hb1.size (.cells #[.bool m, .slice a n c, .slice a' n' c'] 79)).alloc (Nat.le_trans hb1.size (by simp)) (.cells #[.bool m2, .slice b j d, .slice b' j' d'] 79))
  clear hb1
  go_wp2_with fail
  go_ret2
  exact ⟨rfl, y2.out⟩
end Go.Proofs.YtlimaehdmcnjaaaGreatDoor
