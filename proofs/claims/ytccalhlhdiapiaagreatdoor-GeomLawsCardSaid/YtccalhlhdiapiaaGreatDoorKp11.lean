/- Texts that the proof rests on, merged: R2r, R2o, R4s, R4a, R4b, Lr1, Lr2, Ns, Er5, Tw, R2da, Iz, Lr3, Sh6, Sm. -/
import Derived.Test.YtccalhlhdiapiaaGreatDoorKp10
import Derived.IntWalk
import Derived.Deep.RegionHeld3
import Derived.Shelf.SlSortCmp.WholeK
import Derived.Shelf.SlGeneric
import Derived.Shelf.Small.Bits
import Derived.Ground.SlsfProg
import Derived.Ground.NamesProg
import Derived.Test.YtccalhlhdiapiaaGreatDoorProg
import Derived.Sort.OwnSortedInts
import Derived.WalkLawsBesides
import Derived.Sort.Walk0
namespace Go.Proofs.YtccalhlhdiapiaaGreatDoor
open Go.RowKit
open Go.Lib (decDigits nDigits)
set_option linter.unusedVariables false
set_option linter.unusedSimpArgs false
structure CutR (s W B D : ByteArray) (S M I fb : Bool) (k : Nat) : Prop where
  sl : ∀ w, Calls Tryz.prog 115 #[.string s] w fun e w' => e = .returned (.int .i64 k) ∧ w = w'
  kle : k ≤ s.size
  cutW : s.extract 0 k = W
  cutB : S = true → s.extract (k + 1) s.size = B
  has : S = decide (k < s.size)
  int : ∀ w, Calls Tryz.prog 82 #[.string W] w fun e w' => e = .returned (.tuple #[.bool M, .string D, .bool I]) ∧ w = w'
  form : ∀ w, Calls Tryz.prog 116 #[.string B] w fun e w' => e = .returned (.bool fb) ∧ w = w'
theorem cutR_of (s : ByteArray) (hs : s.size ≤ 1000000) : CutR s (cW s) (cB s) (iD (cW s)) (cS s) (iM (cW s)) (iB (cW s)) (fB (cB s)) (cW s).size := by
  have key : ∀ k, isSlash s.data.toList k → k = (cW s).size := by
    intro k hk
    obtain ⟨h1, h2, -⟩ := slash_cut hk
    rw [h2]
    simp
    omega
  have ex : ∃ k, isSlash s.data.toList k := by
    rcases sl_cases s.data.toList with hn | ⟨A, B, hA, e⟩
    · exact ⟨s.data.toList.length, Nat.le_refl _, fun j b _ hb => hn b (List.mem_of_getElem? hb), fun h => absurd h (Nat.lt_irrefl _)⟩
    · refine ⟨A.length, by rw [e]; simp, fun j b hj hb => ?_, fun _ => by rw [e]; simp⟩
      rw [e, List.getElem?_append_left hj] at hb
      exact hA b (List.mem_of_getElem? hb)
  obtain ⟨k, hk⟩ := ex
  obtain ⟨h1, h2, h3, h4⟩ := slash_cut hk
  have hk' := key k hk
  subst hk'
  exact {
    sl := fun w => (r2_slash w s (by omega)).mono (by
      rintro e w' ⟨⟨j, rfl, hj⟩, rfl⟩
      rw [key j hj]
      exact ⟨rfl, rfl⟩)
    kle := h1
    cutW := h2.symm
    cutB := fun h => (h4 (by rw [h3] at h; simpa using h)).symm
    has := h3
    int := fun w => r2_integer w (cW s) (by have := cW_size s; omega)
    form := fun w => r2_digits w (cB s) (by have := cB_size s; omega) }
def RetR (x : Int) (m : Bool) (n d : Nat) (e : Ending) (w' : World) : Prop := ∃ v, e = .returned (.tuple #[v, .int .i64 x]) ∧ (x = 0 → ∃ N D, v = .agg #[.bool m, N, D] ∧ IsN .i64 w' N n ∧ IsN .i64 w' D d) ∧ (x ≠ 0 → v = .agg #[.bool false, .slice none 0 0, .slice none 0 0])
theorem RetR.err {x : Int} {m : Bool} {n d : Nat} {w' : World} (h : x ≠ 0) : RetR x m n d (.returned (.tuple #[.agg #[.bool false, .slice none 0 0, .slice none 0 0], .int .i64 x])) w' := ⟨_, rfl, fun e => absurd e h, fun _ => rfl⟩
set_option maxRecDepth 100000 in
set_option maxHeartbeats 1000000 in
theorem rd_bad (w : World) (s W B D : ByteArray) (S M I fb : Bool) (k : Nat) (hs : s.size ≤ 1000000) (HC : CutR s W B D S M I fb k)
    (h : (I && (!S || (decide (D ≠ ⟨#[48]⟩) && fb && decide (B ≠ ⟨#[48]⟩) && decide (B ≠ ⟨#[49]⟩)))) = false) :
    Calls Tryz.prog 67 #[.string s] w fun e w' => e = .returned (.tuple #[.agg #[.bool false, .slice none 0 0, .slice none 0 0], .int .i64 3]) ∧ Below w.heap.size w w' := by
  have key : (I = false) ∨ (I = true ∧ S = true ∧ (D = ⟨#[48]⟩ ∨ (¬ D = ⟨#[48]⟩ ∧ (fb = false ∨ (fb = true ∧ (B = ⟨#[48]⟩ ∨ (¬ B = ⟨#[48]⟩ ∧ B = ⟨#[49]⟩))))))) := by
    by_cases h1 : D = ⟨#[48]⟩ <;> by_cases h2 : B = ⟨#[48]⟩ <;> by_cases h3 : B = ⟨#[49]⟩ <;> cases I <;> cases S <;> cases fb <;> simp [h1, h2, h3] at h ⊢
  have HK := hid HC
  have kle := HC.kle
  have hlt := HC.has
  have cw := hid HC.cutW
  have cb := hid HC.cutB
  clear HC h
  have t0 := hid (Blk.new w #[.bool false, .slice none 0 0, .slice none 0 0] 68)
  have t1 := hid ((Below.refl w.heap.size w).alloc (Nat.le_refl _) (.cells #[.bool false, .slice none 0 0, .slice none 0 0] 68))
  have d0 := t0.out.cell 0
  have d1 := t0.out.cell 1
  have d2 := t0.out.cell 2
  have e0 := t0.out.free 0
  have e1 := t0.out.free 1
  have e2 := t0.out.free 2
  simp at d0 d1 d2
  have ht : ∀ {b : Bool}, b = decide (k < s.size) → decide (k < s.size) = b := fun h => h.symm
  have wk : IntKind.i64.wrap ((k : Int) + 1) = (k : Int) + 1 := by rw [IntWalk.i64_in _ ⟨by omega, by omega⟩]
  have kle2 : S = true → k + 1 ≤ s.size := fun h => by rw [h] at hlt; have := of_decide_eq_true hlt.symm; omega
  rcases key with rfl | ⟨rfl, rfl, rfl | ⟨h1, rfl | ⟨rfl, rfl | ⟨h2, rfl⟩⟩⟩⟩
  · cases S
    · have q0 := ht hlt
      clear hlt ht kle2
      go_enter Tryz.func67, Tryz.ntmps67
      go_wp2_with (first
        | (go_at_call 115; refine (HK.out.sl _).mono ?_; rintro e w1 ⟨rfl, rfl⟩)
        | (go_at_call 82; rw [cw.out]; refine (HK.out.int _).mono ?_; rintro e w2 ⟨rfl, rfl⟩)
        | (go_at_call 116; (first | rw [cb.out trivial] | rw [cb.out rfl]); refine (HK.out.form _).mono ?_; rintro e w3 ⟨rfl, rfl⟩)
        | fail)
      obtain ⟨s1, s2⟩ := set3 t0.out false none none 0 0 0 0
      have f0 := s2.cell 0
      have f1 := s2.cell 1
      have f2 := s2.cell 2
      simp at f0 f1 f2
      refine bodyPost_ret (v := .tuple #[.agg #[.bool false, .slice none 0 0, .slice none 0 0], .int .i64 3]) (by simp [results, Tryz.results67, go_sem, f0, f1, f2]) rfl ⟨rfl, ?_⟩
      first | exact t1.out | exact ((t1.out.setCell (Nat.le_refl _) _).setCell (Nat.le_refl _) _).setCell (Nat.le_refl _) _
    · have q0 := ht hlt
      have kle3 := kle2 rfl
      clear hlt ht kle2
      go_enter Tryz.func67, Tryz.ntmps67
      go_wp2_with (first
        | (go_at_call 115; refine (HK.out.sl _).mono ?_; rintro e w1 ⟨rfl, rfl⟩)
        | (go_at_call 82; rw [cw.out]; refine (HK.out.int _).mono ?_; rintro e w2 ⟨rfl, rfl⟩)
        | (go_at_call 116; (first | rw [cb.out trivial] | rw [cb.out rfl]); refine (HK.out.form _).mono ?_; rintro e w3 ⟨rfl, rfl⟩)
        | fail)
      obtain ⟨s1, s2⟩ := set3 t0.out false none none 0 0 0 0
      have f0 := s2.cell 0
      have f1 := s2.cell 1
      have f2 := s2.cell 2
      simp at f0 f1 f2
      refine bodyPost_ret (v := .tuple #[.agg #[.bool false, .slice none 0 0, .slice none 0 0], .int .i64 3]) (by simp [results, Tryz.results67, go_sem, f0, f1, f2]) rfl ⟨rfl, ?_⟩
      first | exact t1.out | exact ((t1.out.setCell (Nat.le_refl _) _).setCell (Nat.le_refl _) _).setCell (Nat.le_refl _) _
  · have q0 := ht hlt
    have kle3 := kle2 rfl
    clear hlt ht kle2
    go_enter Tryz.func67, Tryz.ntmps67
    go_wp2_with (first
      | (go_at_call 115; refine (HK.out.sl _).mono ?_; rintro e w1 ⟨rfl, rfl⟩)
      | (go_at_call 82; rw [cw.out]; refine (HK.out.int _).mono ?_; rintro e w2 ⟨rfl, rfl⟩)
      | (go_at_call 116; (first | rw [cb.out trivial] | rw [cb.out rfl]); refine (HK.out.form _).mono ?_; rintro e w3 ⟨rfl, rfl⟩)
      | fail)
    obtain ⟨s1, s2⟩ := set3 t0.out false none none 0 0 0 0
    have f0 := s2.cell 0
    have f1 := s2.cell 1
    have f2 := s2.cell 2
    simp at f0 f1 f2
    refine bodyPost_ret (v := .tuple #[.agg #[.bool false, .slice none 0 0, .slice none 0 0], .int .i64 3]) (by simp [results, Tryz.results67, go_sem, f0, f1, f2]) rfl ⟨rfl, ?_⟩
    first | exact t1.out | exact ((t1.out.setCell (Nat.le_refl _) _).setCell (Nat.le_refl _) _).setCell (Nat.le_refl _) _
  · have q0 := ht hlt
    have kle3 := kle2 rfl
    have i1 := ne_lit (l := [48]) h1
    clear hlt ht kle2
    go_enter Tryz.func67, Tryz.ntmps67
    go_wp2_with (first
      | (go_at_call 115; refine (HK.out.sl _).mono ?_; rintro e w1 ⟨rfl, rfl⟩)
      | (go_at_call 82; rw [cw.out]; refine (HK.out.int _).mono ?_; rintro e w2 ⟨rfl, rfl⟩)
      | (go_at_call 116; (first | rw [cb.out trivial] | rw [cb.out rfl]); refine (HK.out.form _).mono ?_; rintro e w3 ⟨rfl, rfl⟩)
      | fail)
    obtain ⟨s1, s2⟩ := set3 t0.out false none none 0 0 0 0
    have f0 := s2.cell 0
    have f1 := s2.cell 1
    have f2 := s2.cell 2
    simp at f0 f1 f2
    refine bodyPost_ret (v := .tuple #[.agg #[.bool false, .slice none 0 0, .slice none 0 0], .int .i64 3]) (by simp [results, Tryz.results67, go_sem, f0, f1, f2]) rfl ⟨rfl, ?_⟩
    first | exact t1.out | exact ((t1.out.setCell (Nat.le_refl _) _).setCell (Nat.le_refl _) _).setCell (Nat.le_refl _) _
  · have q0 := ht hlt
    have kle3 := kle2 rfl
    have i1 := ne_lit (l := [48]) h1
    clear hlt ht kle2
    go_enter Tryz.func67, Tryz.ntmps67
    go_wp2_with (first
      | (go_at_call 115; refine (HK.out.sl _).mono ?_; rintro e w1 ⟨rfl, rfl⟩)
      | (go_at_call 82; rw [cw.out]; refine (HK.out.int _).mono ?_; rintro e w2 ⟨rfl, rfl⟩)
      | (go_at_call 116; (first | rw [cb.out trivial] | rw [cb.out rfl]); refine (HK.out.form _).mono ?_; rintro e w3 ⟨rfl, rfl⟩)
      | fail)
    obtain ⟨s1, s2⟩ := set3 t0.out false none none 0 0 0 0
    have f0 := s2.cell 0
    have f1 := s2.cell 1
    have f2 := s2.cell 2
    simp at f0 f1 f2
    refine bodyPost_ret (v := .tuple #[.agg #[.bool false, .slice none 0 0, .slice none 0 0], .int .i64 3]) (by simp [results, Tryz.results67, go_sem, f0, f1, f2]) rfl ⟨rfl, ?_⟩
    first | exact t1.out | exact ((t1.out.setCell (Nat.le_refl _) _).setCell (Nat.le_refl _) _).setCell (Nat.le_refl _) _
  · have q0 := ht hlt
    have kle3 := kle2 rfl
    have i1 := ne_lit (l := [48]) h1
    have i2 := ne_lit (l := [48]) h2
    clear hlt ht kle2
    go_enter Tryz.func67, Tryz.ntmps67
    go_wp2_with (first
      | (go_at_call 115; refine (HK.out.sl _).mono ?_; rintro e w1 ⟨rfl, rfl⟩)
      | (go_at_call 82; rw [cw.out]; refine (HK.out.int _).mono ?_; rintro e w2 ⟨rfl, rfl⟩)
      | (go_at_call 116; (first | rw [cb.out trivial] | rw [cb.out rfl]); refine (HK.out.form _).mono ?_; rintro e w3 ⟨rfl, rfl⟩)
      | fail)
    obtain ⟨s1, s2⟩ := set3 t0.out false none none 0 0 0 0
    have f0 := s2.cell 0
    have f1 := s2.cell 1
    have f2 := s2.cell 2
    simp at f0 f1 f2
    refine bodyPost_ret (v := .tuple #[.agg #[.bool false, .slice none 0 0, .slice none 0 0], .int .i64 3]) (by simp [results, Tryz.results67, go_sem, f0, f1, f2]) rfl ⟨rfl, ?_⟩
    first | exact t1.out | exact ((t1.out.setCell (Nat.le_refl _) _).setCell (Nat.le_refl _) _).setCell (Nat.le_refl _) _
set_option maxRecDepth 100000 in
set_option maxHeartbeats 1000000 in
theorem rd_long (w : World) (s W B D : ByteArray) (S M fb : Bool) (k : Nat) (hs : s.size ≤ 1000000) (HC : CutR s W B D S M true fb k)
    (h : S = false ∨ (S = true ∧ ¬ D = ⟨#[48]⟩ ∧ ¬ B = ⟨#[48]⟩ ∧ ¬ B = ⟨#[49]⟩ ∧ fb = true)) (hl : 4000 < D.size ∨ (¬ 4000 < D.size ∧ S = true ∧ 4000 < B.size)) :
    Calls Tryz.prog 67 #[.string s] w fun e w' => e = .returned (.tuple #[.agg #[.bool false, .slice none 0 0, .slice none 0 0], .int .i64 5]) ∧ Below w.heap.size w w' := by
  have HK := hid HC
  have kle := HC.kle
  have hlt := HC.has
  have cw := hid HC.cutW
  have cb := hid HC.cutB
  clear HC
  have t0 := hid (Blk.new w #[.bool false, .slice none 0 0, .slice none 0 0] 68)
  have t1 := hid ((Below.refl w.heap.size w).alloc (Nat.le_refl _) (.cells #[.bool false, .slice none 0 0, .slice none 0 0] 68))
  have wk : IntKind.i64.wrap ((k : Int) + 1) = (k : Int) + 1 := by rw [IntWalk.i64_in _ ⟨by omega, by omega⟩]
  have d0 := t0.out.cell 0
  have d1 := t0.out.cell 1
  have d2 := t0.out.cell 2
  have e0 := t0.out.free 0
  have e1 := t0.out.free 1
  have e2 := t0.out.free 2
  simp at d0 d1 d2
  have kle2 : S = true → k + 1 ≤ s.size := fun h => by rw [h] at hlt; have := of_decide_eq_true hlt.symm; omega
  have q0 := hlt.symm
  clear hlt
  rcases h with rfl | ⟨rfl, h1, h2, h3, rfl⟩
  · have q1 : decide ((4000 : Int) < (D.size : Int)) = true := by
      rcases hl with hl | ⟨_, hl, _⟩
      · simp; omega
      · cases hl
    clear hl kle2
    go_enter Tryz.func67, Tryz.ntmps67
    go_wp2_with (first
      | (go_at_call 115; refine (HK.out.sl _).mono ?_; rintro e w1 ⟨rfl, rfl⟩)
      | (go_at_call 82; rw [cw.out]; refine (HK.out.int _).mono ?_; rintro e w2 ⟨rfl, rfl⟩)
      | (go_at_call 116; (first | rw [cb.out trivial] | rw [cb.out rfl]); refine (HK.out.form _).mono ?_; rintro e w3 ⟨rfl, rfl⟩)
      | fail)
    obtain ⟨s1, s2⟩ := set3 t0.out false none none 0 0 0 0
    have f0 := s2.cell 0
    have f1 := s2.cell 1
    have f2 := s2.cell 2
    simp at f0 f1 f2
    refine bodyPost_ret (v := .tuple #[.agg #[.bool false, .slice none 0 0, .slice none 0 0], .int .i64 5]) (by simp [results, Tryz.results67, go_sem, f0, f1, f2]) rfl ⟨rfl, ?_⟩
    first | exact t1.out | exact ((t1.out.setCell (Nat.le_refl _) _).setCell (Nat.le_refl _) _).setCell (Nat.le_refl _) _
  · have kle3 := kle2 rfl
    have i1 := ne_lit (l := [48]) h1
    have i2 := ne_lit (l := [48]) h2
    have i3 := ne_lit (l := [49]) h3
    clear kle2
    rcases hl with hl | ⟨hl, -, hl2⟩
    · have q1 : decide ((4000 : Int) < (D.size : Int)) = true := by simp; omega
      clear hl
      go_enter Tryz.func67, Tryz.ntmps67
      go_wp2_with (first
        | (go_at_call 115; refine (HK.out.sl _).mono ?_; rintro e w1 ⟨rfl, rfl⟩)
        | (go_at_call 82; rw [cw.out]; refine (HK.out.int _).mono ?_; rintro e w2 ⟨rfl, rfl⟩)
        | (go_at_call 116; (first | rw [cb.out trivial] | rw [cb.out rfl]); refine (HK.out.form _).mono ?_; rintro e w3 ⟨rfl, rfl⟩)
        | fail)
      obtain ⟨s1, s2⟩ := set3 t0.out false none none 0 0 0 0
      have f0 := s2.cell 0
      have f1 := s2.cell 1
      have f2 := s2.cell 2
      simp at f0 f1 f2
      refine bodyPost_ret (v := .tuple #[.agg #[.bool false, .slice none 0 0, .slice none 0 0], .int .i64 5]) (by simp [results, Tryz.results67, go_sem, f0, f1, f2]) rfl ⟨rfl, ?_⟩
      first | exact t1.out | exact ((t1.out.setCell (Nat.le_refl _) _).setCell (Nat.le_refl _) _).setCell (Nat.le_refl _) _
    · have q1 : decide ((4000 : Int) < (D.size : Int)) = false := by simp; omega
      have q2 : decide ((4000 : Int) < (B.size : Int)) = true := by simp; omega
      clear hl hl2
      go_enter Tryz.func67, Tryz.ntmps67
      go_wp2_with (first
        | (go_at_call 115; refine (HK.out.sl _).mono ?_; rintro e w1 ⟨rfl, rfl⟩)
        | (go_at_call 82; rw [cw.out]; refine (HK.out.int _).mono ?_; rintro e w2 ⟨rfl, rfl⟩)
        | (go_at_call 116; (first | rw [cb.out trivial] | rw [cb.out rfl]); refine (HK.out.form _).mono ?_; rintro e w3 ⟨rfl, rfl⟩)
        | fail)
      obtain ⟨s1, s2⟩ := set3 t0.out false none none 0 0 0 0
      have f0 := s2.cell 0
      have f1 := s2.cell 1
      have f2 := s2.cell 2
      simp at f0 f1 f2
      refine bodyPost_ret (v := .tuple #[.agg #[.bool false, .slice none 0 0, .slice none 0 0], .int .i64 5]) (by simp [results, Tryz.results67, go_sem, f0, f1, f2]) rfl ⟨rfl, ?_⟩
      first | exact t1.out | exact ((t1.out.setCell (Nat.le_refl _) _).setCell (Nat.le_refl _) _).setCell (Nat.le_refl _) _
set_option maxRecDepth 100000 in
set_option maxHeartbeats 1000000 in
theorem rd_frac (w : World) (s W B D : ByteArray) (M : Bool) (k : Nat) (hs : s.size ≤ 1000000) (HC : CutR s W B D true M true true k)
    (h1 : ¬ D = ⟨#[48]⟩) (h2 : ¬ B = ⟨#[48]⟩) (h3 : ¬ B = ⟨#[49]⟩) (hl1 : ¬ 4000 < D.size) (hl2 : ¬ 4000 < B.size) (hd1 : allDig D.data.toList) (hd2 : allDig B.data.toList) :
    Calls Tryz.prog 67 #[.string s] w fun e w' => RetR (if Nat.gcd (bN D) (bN B) = 1 then 0 else 3) M (bN D) (bN B) e w' ∧ Below w.heap.size w w' := by
  obtain ⟨xc, hxc⟩ : ∃ x : Int, (if Nat.gcd (bN D) (bN B) = 1 then 0 else 3) = x := ⟨_, rfl⟩
  rw [hxc]
  have HXC := hid hxc
  clear hxc
  have HK := hid HC
  have kle := HC.kle
  have hlt := HC.has
  have cw := hid HC.cutW
  have cb := hid HC.cutB
  clear HC
  have t0 := hid (Blk.new w #[.bool false, .slice none 0 0, .slice none 0 0] 68)
  have t1 := hid ((Below.refl w.heap.size w).alloc (Nat.le_refl _) (.cells #[.bool false, .slice none 0 0, .slice none 0 0] 68))
  have wk : IntKind.i64.wrap ((k : Int) + 1) = (k : Int) + 1 := by rw [IntWalk.i64_in _ ⟨by omega, by omega⟩]
  have kle3 : k + 1 ≤ s.size := by have := of_decide_eq_true hlt.symm; omega
  have q0 := hlt.symm
  clear hlt
  have i1 := ne_lit (l := [48]) h1
  have i2 := ne_lit (l := [48]) h2
  have i3 := ne_lit (l := [49]) h3
  have q1 : decide ((4000 : Int) < (D.size : Int)) = false := by simp; omega
  have q2 : decide ((4000 : Int) < (B.size : Int)) = false := by simp; omega
  have L1 := hid (bN_limbs hd1 hl1)
  have L2 := hid (bN_limbs hd2 hl2)
  have P1 := fun W => hid (r1_Read W D hd1 (by omega))
  have P2 := fun W => hid (r1_Read W B hd2 (by omega))
  clear hd1 hd2 h1 h2 h3 hl1 hl2
  go_enter Tryz.func67, Tryz.ntmps67
  go_wp2_with (first
    | (go_at_call 115; refine (HK.out.sl _).mono ?_; rintro e w1 ⟨rfl, rfl⟩)
    | (go_at_call 82; rw [cw.out]; refine (HK.out.int _).mono ?_; rintro e w2 ⟨rfl, rfl⟩)
    | (go_at_call 116; (first | rw [cb.out trivial] | rw [cb.out rfl]); refine (HK.out.form _).mono ?_; rintro e w3 ⟨rfl, rfl⟩)
    | fail)
  refine (P1 _).out.mono ?_; rintro e w4 ⟨⟨v4, rfl, hv4⟩, hb4⟩
  have x4 := hid (t0.out.call hb4)
  have y4 := hid (bnext t1.out hb4)
  have N4 := hid hv4
  clear hb4 hv4
  obtain ⟨a4, c4, rfl, _⟩ := N4.out.openI
  obtain ⟨k1, hk1⟩ : ∃ k, (limbs (dv D.data.toList)).length = k := ⟨_, rfl⟩
  rw [hk1] at N4 ⊢
  clear P1
  go_wp2_with fail
  refine (P2 _).out.mono ?_; rintro e w5 ⟨⟨v5, rfl, hv5⟩, hb5⟩
  have x5 := hid (x4.out.call hb5)
  have y5 := hid (bnext y4.out hb5)
  have N5 := hid (N4.out.call hb5)
  have D5 := hid hv5
  clear hb5 hv5
  obtain ⟨a5, c5, rfl, _⟩ := D5.out.openI
  obtain ⟨k2, hk2⟩ : ∃ k, (limbs (dv B.data.toList)).length = k := ⟨_, rfl⟩
  rw [hk2] at D5 ⊢
  clear P2
  go_wp2_with fail
  have z5 := hid (Blk.new w5 #[.bool M, .slice a4 k1 c4, .slice a5 k2 c5] 68)
  have b5 := hid ((Below.refl w5.heap.size w5).alloc (Nat.le_refl _) (.cells #[.bool M, .slice a4 k1 c4, .slice a5 k2 c5] 68))
  have g0 := z5.out.cell 0
  have g1 := z5.out.cell 1
  have g2 := z5.out.cell 2
  simp at g0 g1 g2
  go_wp2_with fail
  refine (r1_Common _ _ _ _ _ (N5.out.call b5.out) (D5.out.call b5.out) L1.out L2.out).mono ?_
  rintro e w6 ⟨⟨v6, rfl, hv6⟩, hb6⟩
  have z6 := hid (z5.out.call hb6)
  have x6 := hid ((x5.out.call b5.out).call hb6)
  have y6 := hid (bnext (bnext y5.out b5.out) hb6)
  have N6 := hid ((N5.out.call b5.out).call hb6)
  have D6 := hid ((D5.out.call b5.out).call hb6)
  have G6 := hid hv6
  clear hb6 hv6 g0 g1 g2
  go_wp2_with fail
  refine (r2_one _).mono ?_
  rintro e w7 ⟨⟨v7, rfl, hv7⟩, hb7⟩
  have z7 := hid (z6.out.call hb7)
  have x7 := hid (x6.out.call hb7)
  have y7 := hid (bnext y6.out hb7)
  have N7 := hid (N6.out.call hb7)
  have D7 := hid (D6.out.call hb7)
  have G7 := hid (G6.out.call hb7)
  have O7 := hid hv7
  clear hb7 hv7
  go_wp2_with fail
  refine (r1_Order _ _ _ _ _ G7.out O7.out).mono ?_
  rintro e w8 ⟨rfl, hb8⟩
  have z8 := hid (z7.out.call hb8)
  have x8 := hid (x7.out.call hb8)
  have y8 := hid (bnext y7.out hb8)
  have N8 := hid (N7.out.call hb8)
  have D8 := hid (D7.out.call hb8)
  clear hb8
  have d0 := x8.out.cell 0
  have d1 := x8.out.cell 1
  have d2 := x8.out.cell 2
  have e0 := x8.out.free 0
  have e1 := x8.out.free 1
  have e2 := x8.out.free 2
  have g0 := z8.out.cell 0
  have g1 := z8.out.cell 1
  have g2 := z8.out.cell 2
  simp at d0 d1 d2 g0 g1 g2
  
  by_cases hG : Nat.gcd (bN D) (bN B) = 1
  · have hO : ordN (Nat.gcd (dv D.data.toList) (dv B.data.toList)) 1 = 0 := by rw [show Nat.gcd (dv D.data.toList) (dv B.data.toList) = 1 from hG]; exact ordN_eq
    have X0 := hid (show xc = 0 from by rw [← HXC.out, if_pos hG])
    rw [hO]
    clear hO hG
    go_wp2_with fail
    obtain ⟨s1, s2⟩ := set3 x8.out M a4 a5 k1 c4 k2 c5
    have f0 := s2.cell 0
    have f1 := s2.cell 1
    have f2 := s2.cell 2
    simp at f0 f1 f2
    refine bodyPost_ret (v := .tuple #[.agg #[.bool M, .slice a4 k1 c4, .slice a5 k2 c5], .int .i64 0]) (by simp [results, Tryz.results67, go_sem, f0, f1, f2]) rfl ⟨by rw [X0.out]; exact ⟨_, rfl, fun _ => ⟨_, _, rfl, s1 _ _ _ N8.out, s1 _ _ _ D8.out⟩, fun h => absurd rfl h⟩, ?_⟩
    exact ((y8.out.setCell (Nat.le_refl _) _).setCell (Nat.le_refl _) _).setCell (Nat.le_refl _) _
  · have hO : (ordN (Nat.gcd (dv D.data.toList) (dv B.data.toList)) 1 != 0) = true := by
      have hG' : ¬ Nat.gcd (dv D.data.toList) (dv B.data.toList) = 1 := hG
      unfold ordN
      split
      · rfl
      · split
        · rfl
        · omega
    have X0 := hid (show xc = 3 from by rw [← HXC.out, if_neg hG])
    obtain ⟨t, ht⟩ : ∃ t, ordN (Nat.gcd (dv D.data.toList) (dv B.data.toList)) 1 = t := ⟨_, rfl⟩
    rw [ht] at hO ⊢
    clear ht hG
    go_wp2_with fail
    obtain ⟨s1, s2⟩ := set3 x8.out false none none 0 0 0 0
    have f0 := s2.cell 0
    have f1 := s2.cell 1
    have f2 := s2.cell 2
    simp at f0 f1 f2
    refine bodyPost_ret (v := .tuple #[.agg #[.bool false, .slice none 0 0, .slice none 0 0], .int .i64 3]) (by simp [results, Tryz.results67, go_sem, f0, f1, f2]) rfl ⟨by rw [X0.out]; exact RetR.err (by decide), ?_⟩
    exact ((y8.out.setCell (Nat.le_refl _) _).setCell (Nat.le_refl _) _).setCell (Nat.le_refl _) _
set_option maxRecDepth 100000 in
set_option maxHeartbeats 1000000 in
theorem rd_int (w : World) (s W B D : ByteArray) (M fb : Bool) (k : Nat) (hs : s.size ≤ 1000000) (HC : CutR s W B D false M true fb k)
    (hl1 : ¬ 4000 < D.size) (hd1 : allDig D.data.toList) :
    Calls Tryz.prog 67 #[.string s] w fun e w' => RetR 0 M (bN D) 1 e w' ∧ Below w.heap.size w w' := by
  have HK := hid HC
  have kle := HC.kle
  have hlt := HC.has
  have cw := hid HC.cutW
  have cb := hid HC.cutB
  clear HC
  have t0 := hid (Blk.new w #[.bool false, .slice none 0 0, .slice none 0 0] 68)
  have t1 := hid ((Below.refl w.heap.size w).alloc (Nat.le_refl _) (.cells #[.bool false, .slice none 0 0, .slice none 0 0] 68))
  have wk : IntKind.i64.wrap ((k : Int) + 1) = (k : Int) + 1 := by rw [IntWalk.i64_in _ ⟨by omega, by omega⟩]
  have q0 := hlt.symm
  clear hlt
  have q1 : decide ((4000 : Int) < (D.size : Int)) = false := by simp; omega
  have L1 := hid (bN_limbs hd1 hl1)
  have L2 : Hid ((limbs 1).length ≤ 1000000) := by show _ ≤ _; rw [limbs_one]; decide
  have P1 := fun W => hid (r1_Read W D hd1 (by omega))
  have P2 : ∀ W, Hid (Calls Tryz.prog 40 #[.string ⟨#[49]⟩] W fun e w' => RetN .i64 1 e w' ∧ Below W.heap.size W w') := fun W => hid (r1_Read W ⟨#[49]⟩ (by intro b hb; simp at hb; subst hb; rfl) (Nat.succ_le_succ (Nat.zero_le _)))
  have hO : ordN (Nat.gcd (dv D.data.toList) 1) 1 = 0 := by rw [Nat.gcd_one_right]; exact ordN_eq
  have HO := hid hO
  clear hd1 hl1 hO
  go_enter Tryz.func67, Tryz.ntmps67
  go_wp2_with (first
    | (go_at_call 115; refine (HK.out.sl _).mono ?_; rintro e w1 ⟨rfl, rfl⟩)
    | (go_at_call 82; rw [cw.out]; refine (HK.out.int _).mono ?_; rintro e w2 ⟨rfl, rfl⟩)
    | (go_at_call 116; (first | rw [cb.out trivial] | rw [cb.out rfl]); refine (HK.out.form _).mono ?_; rintro e w3 ⟨rfl, rfl⟩)
    | fail)
  refine (P1 _).out.mono ?_; rintro e w4 ⟨⟨v4, rfl, hv4⟩, hb4⟩
  have x4 := hid (t0.out.call hb4)
  have y4 := hid (bnext t1.out hb4)
  have N4 := hid hv4
  clear hb4 hv4
  obtain ⟨a4, c4, rfl, _⟩ := N4.out.openI
  obtain ⟨k1, hk1⟩ : ∃ k, (limbs (dv D.data.toList)).length = k := ⟨_, rfl⟩
  rw [hk1] at N4 ⊢
  clear P1
  go_wp2_with fail
  refine (P2 _).out.mono ?_; rintro e w5 ⟨⟨v5, rfl, hv5⟩, hb5⟩
  have x5 := hid (x4.out.call hb5)
  have y5 := hid (bnext y4.out hb5)
  have N5 := hid (N4.out.call hb5)
  have D5 := hid hv5
  clear hb5 hv5
  obtain ⟨a5, c5, rfl, _⟩ := D5.out.openI
  obtain ⟨k2, hk2⟩ : ∃ k, (limbs 1).length = k := ⟨_, rfl⟩
  rw [hk2] at D5 ⊢
  clear P2
  go_wp2_with fail
  have z5 := hid (Blk.new w5 #[.bool M, .slice a4 k1 c4, .slice a5 k2 c5] 68)
  have b5 := hid ((Below.refl w5.heap.size w5).alloc (Nat.le_refl _) (.cells #[.bool M, .slice a4 k1 c4, .slice a5 k2 c5] 68))
  have g0 := z5.out.cell 0
  have g1 := z5.out.cell 1
  have g2 := z5.out.cell 2
  simp at g0 g1 g2
  go_wp2_with fail
  refine (r1_Common _ _ _ _ _ (N5.out.call b5.out) (D5.out.call b5.out) L1.out L2.out).mono ?_
  rintro e w6 ⟨⟨v6, rfl, hv6⟩, hb6⟩
  have z6 := hid (z5.out.call hb6)
  have x6 := hid ((x5.out.call b5.out).call hb6)
  have y6 := hid (bnext (bnext y5.out b5.out) hb6)
  have N6 := hid ((N5.out.call b5.out).call hb6)
  have D6 := hid ((D5.out.call b5.out).call hb6)
  have G6 := hid hv6
  clear hb6 hv6 g0 g1 g2
  go_wp2_with fail
  refine (r2_one _).mono ?_
  rintro e w7 ⟨⟨v7, rfl, hv7⟩, hb7⟩
  have z7 := hid (z6.out.call hb7)
  have x7 := hid (x6.out.call hb7)
  have y7 := hid (bnext y6.out hb7)
  have N7 := hid (N6.out.call hb7)
  have D7 := hid (D6.out.call hb7)
  have G7 := hid (G6.out.call hb7)
  have O7 := hid hv7
  clear hb7 hv7
  go_wp2_with fail
  refine (r1_Order _ _ _ _ _ G7.out O7.out).mono ?_
  rintro e w8 ⟨rfl, hb8⟩
  have z8 := hid (z7.out.call hb8)
  have x8 := hid (x7.out.call hb8)
  have y8 := hid (bnext y7.out hb8)
  have N8 := hid (N7.out.call hb8)
  have D8 := hid (D7.out.call hb8)
  clear hb8
  have d0 := x8.out.cell 0
  have d1 := x8.out.cell 1
  have d2 := x8.out.cell 2
  have e0 := x8.out.free 0
  have e1 := x8.out.free 1
  have e2 := x8.out.free 2
  have g0 := z8.out.cell 0
  have g1 := z8.out.cell 1
  have g2 := z8.out.cell 2
  simp at d0 d1 d2 g0 g1 g2
  
  rw [HO.out]
  go_wp2_with fail
  obtain ⟨s1, s2⟩ := set3 x8.out M a4 a5 k1 c4 k2 c5
  have f0 := s2.cell 0
  have f1 := s2.cell 1
  have f2 := s2.cell 2
  simp at f0 f1 f2
  refine bodyPost_ret (v := .tuple #[.agg #[.bool M, .slice a4 k1 c4, .slice a5 k2 c5], .int .i64 0]) (by simp [results, Tryz.results67, go_sem, f0, f1, f2]) rfl ⟨⟨_, rfl, fun _ => ⟨_, _, rfl, s1 _ _ _ N8.out, s1 _ _ _ D8.out⟩, fun h => absurd rfl h⟩, ?_⟩
  exact ((y8.out.setCell (Nat.le_refl _) _).setCell (Nat.le_refl _) _).setCell (Nat.le_refl _) _
theorem r2_Read0 (w : World) (s : ByteArray) (hs : s.size ≤ 1000000) :
    Calls Tryz.prog 67 #[.string s] w fun e w' => RetR (qE s) (iM (cW s)) (bN (iD (cW s))) (bN (qD s)) e w' ∧ Below w.heap.size w w' := by
  have HC := cutR_of s hs
  by_cases hq : qB s = true
  · have hi := qB_whole hq
    rw [hi] at HC
    have hdD := fB_dig (iB_form hi)
    have hcS : cS s = false ∨ (cS s = true ∧ ¬ iD (cW s) = ⟨#[48]⟩ ∧ ¬ cB s = ⟨#[48]⟩ ∧ ¬ cB s = ⟨#[49]⟩ ∧ fB (cB s) = true) := by
      have hq' := hq
      unfold qB at hq'
      simp only [Bool.and_eq_true, Bool.or_eq_true, Bool.not_eq_true', decide_eq_true_eq] at hq'
      rcases hq'.2 with h | h
      · exact .inl h
      · cases hc : cS s
        · exact .inl rfl
        · exact .inr ⟨rfl, h.1.1.1, h.1.2, h.2, h.1.1.2⟩
    by_cases hl : qL s = true
    · have e : qE s = 5 := by simp [qE, hq, hl]
      rw [e]
      unfold qL at hl
      simp only [Bool.or_eq_true, decide_eq_true_eq] at hl
      refine (rd_long w s _ _ _ _ _ _ _ hs HC hcS ?_).mono ?_
      · by_cases h4 : 4000 < (iD (cW s)).size
        · exact .inl h4
        · refine .inr ⟨h4, ?_⟩
          rcases hcS with hc | ⟨hc, -⟩
          · rw [qD_false hc] at hl
            exact absurd (hl.resolve_left h4) (by decide)
          · rw [qD_true hc] at hl
            exact ⟨hc, hl.resolve_left h4⟩
      · rintro e w' ⟨rfl, hb⟩
        exact ⟨RetR.err (by decide), hb⟩
    · have hl' : qL s = false := by simpa using hl
      have hl1 : ¬ 4000 < (iD (cW s)).size ∧ ¬ 4000 < (qD s).size := by
        unfold qL at hl'
        simpa using hl'
      rcases hcS with hc | ⟨hc, h1, h2, h3, h4⟩
      · rw [hc] at HC
        have e : qE s = 0 := by simp [qE, hq, hl', qG, hc]
        rw [e, qD_false hc]
        exact rd_int w s _ _ _ _ _ _ hs HC hl1.1 hdD
      · rw [hc, h4] at HC
        have hl2 := hl1.2
        rw [qD_true hc] at hl2
        have e : qE s = if Nat.gcd (bN (iD (cW s))) (bN (cB s)) = 1 then 0 else 3 := by
          simp only [qE, hq, hl', qG, hc, qD_true hc]
          by_cases hg : Nat.gcd (bN (iD (cW s))) (bN (cB s)) = 1 <;> simp [hg]
        rw [e, qD_true hc]
        exact rd_frac w s _ _ _ _ _ hs HC h1 h2 h3 hl1.1 hl2 hdD (fB_dig h4)
  · have hq' : qB s = false := by simpa using hq
    have e : qE s = 3 := by simp [qE, hq']
    rw [e]
    refine (rd_bad w s _ _ _ _ _ _ _ _ hs HC hq').mono ?_
    rintro e w' ⟨rfl, hb⟩
    exact ⟨RetR.err (by decide), hb⟩
def RetQE (s : ByteArray) (e : Ending) (w' : World) : Prop := ∃ v, e = .returned (.tuple #[v, .int .i64 (qE s)]) ∧ (qE s = 0 → IsQ .i64 w' v (vQ s)) ∧ (qE s ≠ 0 → v = .agg #[.bool false, .slice none 0 0, .slice none 0 0])
theorem r2_Read (w : World) (s : ByteArray) (hs : s.size ≤ 1000000) :
    Calls Tryz.prog 67 #[.string s] w fun e w' => RetQE s e w' ∧ Below w.heap.size w w' := by
  refine (r2_Read0 w s hs).mono ?_
  rintro e w' ⟨⟨v, rfl, h1, h2⟩, hb⟩
  refine ⟨⟨v, rfl, fun h => ?_, h2⟩, hb⟩
  obtain ⟨N, D, rfl, hN, hD⟩ := h1 h
  obtain ⟨e1, e2, e3⟩ := vQ_ok h
  exact ⟨N, D, by rw [e1], by rw [e2]; exact hN, by rw [e3]; exact hD⟩
end Go.Proofs.YtccalhlhdiapiaaGreatDoor
namespace Go.Proofs.YtccalhlhdiapiaaGreatDoor
open Go.RowKit
open Go.Lib (decDigits nDigits)
set_option linter.unusedVariables false
set_option linter.unusedSimpArgs false
def Qv (v : Value) : Prop := ∃ (m : Bool) (a : Option Addr) (n c : Nat) (a' : Option Addr) (n' c' : Nat), v = .agg #[.bool m, .slice a n c, .slice a' n' c']
theorem IsQ.qv {k : IntKind} {w : World} {v : Value} {q : Rat} (h : IsQ k w v q) : Qv v := by
  obtain ⟨N, D, rfl, h1, h2⟩ := h.ex
  obtain ⟨a1, c1, rfl, _⟩ := h1.openI
  obtain ⟨a2, c2, rfl, _⟩ := h2.openI
  exact ⟨_, _, _, _, _, _, _, rfl⟩
theorem RetQE.open {s : ByteArray} {e : Ending} {w' : World} (h : RetQE s e w') : ∃ (m : Bool) (a : Option Addr) (n c : Nat) (a' : Option Addr) (n' c' : Nat), e = .returned (.tuple #[.agg #[.bool m, .slice a n c, .slice a' n' c'], .int .i64 (qE s)]) ∧ (qE s = 0 → IsQ .i64 w' (.agg #[.bool m, .slice a n c, .slice a' n' c']) (vQ s)) ∧ (qE s ≠ 0 → m = false ∧ a = none ∧ n = 0 ∧ c = 0 ∧ a' = none ∧ n' = 0 ∧ c' = 0) := by
  obtain ⟨v, rfl, h1, h2⟩ := h
  by_cases h0 : qE s = 0
  · obtain ⟨m, a, n, c, a', n', c', rfl⟩ := (h1 h0).qv
    exact ⟨m, a, n, c, a', n', c', rfl, h1, fun h => absurd h0 h⟩
  · obtain rfl := h2 h0
    exact ⟨_, _, _, _, _, _, _, rfl, h1, fun _ => ⟨rfl, rfl, rfl, rfl, rfl, rfl, rfl⟩⟩
theorem dig_of {q : Rat} {K : Nat} (h1 : nDigits q.num.natAbs ≤ K) (h2 : nDigits q.den ≤ K) : Dig K q :=
  ⟨Nat.lt_of_lt_of_le (Go.Lib.lt_pow_nDigits _) (Nat.pow_le_pow_right (by omega) h1), Nat.lt_of_lt_of_le (Go.Lib.lt_pow_nDigits _) (Nat.pow_le_pow_right (by omega) h2)⟩
theorem dig_of_fits {q : Rat} (h : ¬ ovQ q) : Dig 4000 q := by
  unfold ovQ at h
  exact dig_of (by omega) (by omega)
theorem Dig.limbs {K L : Nat} {q : Rat} (h : Dig K q) (h0 : 0 < K) (hl : K ≤ 9 * L) : (limbs q.num.natAbs).length ≤ L ∧ (limbs q.den).length ≤ L :=
  ⟨limbs_digits (Nat.le_trans (nDigits_le h0 h.n) hl), limbs_digits (Nat.le_trans (nDigits_le h0 h.d) hl)⟩
end Go.Proofs.YtccalhlhdiapiaaGreatDoor
namespace Go.Proofs.YtccalhlhdiapiaaGreatDoor
open Go.RowKit
open Go.Lib (decDigits nDigits)
set_option linter.unusedVariables false
set_option linter.unusedSimpArgs false
set_option maxRecDepth 100000 in
set_option maxHeartbeats 1000000 in
theorem r2_Check (w : World) (s : ByteArray) (hs : s.size ≤ 1000000) : Calls Tryz.prog 113 #[.string s] w fun e w' => e = .returned (.int .i64 (qE s)) ∧ Below w.heap.size w w' := by
  have R1 := fun V => hid (r2_Read V s hs)
  clear hs
  go_enter Tryz.func113, Tryz.ntmps113
  go_wp2_with fail
  refine (R1 _).out.mono ?_; rintro e w1 ⟨hr1, hb1⟩
  obtain ⟨m, a, n, c, a', n', c', rfl, h1, h2⟩ := hr1.open
  obtain ⟨x, hx⟩ : ∃ x, qE s = x := ⟨_, rfl⟩
  have HX := hid hx
  rw [hx]
  have y2 := hid (hb1.alloc hb1.size (.cells #[.bool m, .slice a n c, .slice a' n' c'] 68))
  clear h1 h2 hr1 hb1 hx R1
  go_wp2_with fail
  go_ret
  exact ⟨by rw [HX.out]; rfl, y2.out⟩
theorem IsQ.parts {k : IntKind} {w : World} {m : Bool} {N D : Value} {q : Rat} (h : IsQ k w (.agg #[.bool m, N, D]) q) : IsN k w N q.num.natAbs ∧ IsN k w D q.den := by
  obtain ⟨N', D', e, h1, h2⟩ := h.ex
  simp at e
  obtain ⟨-, rfl, rfl⟩ := e
  exact ⟨h1, h2⟩
theorem IsQ.sign {k : IntKind} {w : World} {m : Bool} {N D : Value} {q : Rat} (h : IsQ k w (.agg #[.bool m, N, D]) q) : m = decide (q.num < 0) := by
  obtain ⟨N', D', e, h1, h2⟩ := h.ex
  simp at e
  simpa using e.1
def shE (n d : Nat) : Int := if 1000 < nDigits n ∨ 1000 < nDigits d then 5 else 0
set_option maxRecDepth 100000 in
set_option maxHeartbeats 1000000 in
theorem r4_Short (w : World) (s : ByteArray) (hs : s.size ≤ 1000000) (hq : qE s = 0) : Calls Tryz.prog 114 #[.string s] w fun e w' => e = .returned (.int .i64 (shE (vQ s).num.natAbs (vQ s).den)) ∧ Below w.heap.size w w' := by
  have R1 := fun V => hid (r2_Read V s hs)
  have dl := hid ((dig_of_fits (vQ_fits hq)).limbs (L := 1000000) (by omega) (by omega))
  obtain ⟨n, hn⟩ : ∃ n, (vQ s).num.natAbs = n := ⟨_, rfl⟩
  obtain ⟨d, hd⟩ : ∃ d, (vQ s).den = d := ⟨_, rfl⟩
  have HQ := hid hq
  rw [hn, hd] at dl
  rw [hn, hd]
  have HN := hid hn; have HD := hid hd
  have sz := hid (numB_size n); have sz2 := hid (numB_size d)
  clear hs hn hd
  obtain ⟨B1, hB1⟩ : ∃ B, numB n = B := ⟨_, rfl⟩
  obtain ⟨B2, hB2⟩ : ∃ B, numB d = B := ⟨_, rfl⟩
  rw [hB1] at sz
  rw [hB2] at sz2
  have E1 := hid hB1; have E2 := hid hB2
  clear hB1 hB2 hq
  have key : (1000 < B1.size ∧ shE n d = 5) ∨ (¬ 1000 < B1.size ∧ 1000 < B2.size ∧ shE n d = 5) ∨ (¬ 1000 < B1.size ∧ ¬ 1000 < B2.size ∧ shE n d = 0) := by
    rw [sz.out, sz2.out]
    unfold shE
    by_cases h1 : 1000 < nDigits n
    · exact .inl ⟨h1, if_pos (.inl h1)⟩
    · by_cases h2 : 1000 < nDigits d
      · exact .inr (.inl ⟨h1, h2, if_pos (.inr h2)⟩)
      · exact .inr (.inr ⟨h1, h2, if_neg (fun h => h.elim h1 h2)⟩)
  rcases key with ⟨k1, k2⟩ | ⟨k1, k2, k3⟩ | ⟨k1, k2, k3⟩
  · have q0 : decide ((1000 : Int) < (B1.size : Int)) = true := by simp; omega
    rw [k2]
    clear k1 k2
    go_enter Tryz.func114, Tryz.ntmps114
    go_wp2_with fail
    refine (R1 _).out.mono ?_; rintro e w1 ⟨hr1, hb1⟩
    obtain ⟨m, a, k, c, a', k', c', rfl, h1, h2⟩ := hr1.open
    have q := h1 HQ.out
    rw [HQ.out]
    obtain ⟨hN, hD⟩ := q.parts
    rw [HN.out] at hN
    rw [HD.out] at hD
    have b2 := hid ((Below.refl w1.heap.size w1).alloc (Nat.le_refl _) (.cells #[.bool m, .slice a k c, .slice a' k' c'] 68))
    have X2 := hid (Blk.new w1 #[.bool m, .slice a k c, .slice a' k' c'] 68)
    have N2 := hid (hN.call b2.out); have D2 := hid (hD.call b2.out)
    have y2 := hid (bnext hb1 b2.out)
    have g1 := X2.out.cell 1
    have g2 := X2.out.cell 2
    simp at g1 g2
    clear h1 h2 hr1 hb1 q hN hD b2
    clear g2 R1
    go_wp2_with fail
    refine (r1_Write _ _ _ N2.out dl.out.1).mono ?_; rintro e w3 ⟨rfl, hb3⟩
    rw [numV_eq, E1.out]
    have y3 := hid (bnext y2.out hb3)
    clear hb3
    go_wp2_with fail
    go_ret
    exact ⟨rfl, y3.out⟩
  · have q0 : decide ((1000 : Int) < (B1.size : Int)) = false := by simp; omega
    have q1 : decide ((1000 : Int) < (B2.size : Int)) = true := by simp; omega
    rw [k3]
    clear k1 k2 k3
    go_enter Tryz.func114, Tryz.ntmps114
    go_wp2_with fail
    refine (R1 _).out.mono ?_; rintro e w1 ⟨hr1, hb1⟩
    obtain ⟨m, a, k, c, a', k', c', rfl, h1, h2⟩ := hr1.open
    have q := h1 HQ.out
    rw [HQ.out]
    obtain ⟨hN, hD⟩ := q.parts
    rw [HN.out] at hN
    rw [HD.out] at hD
    have b2 := hid ((Below.refl w1.heap.size w1).alloc (Nat.le_refl _) (.cells #[.bool m, .slice a k c, .slice a' k' c'] 68))
    have X2 := hid (Blk.new w1 #[.bool m, .slice a k c, .slice a' k' c'] 68)
    have N2 := hid (hN.call b2.out); have D2 := hid (hD.call b2.out)
    have y2 := hid (bnext hb1 b2.out)
    have g1 := X2.out.cell 1
    have g2 := X2.out.cell 2
    simp at g1 g2
    clear h1 h2 hr1 hb1 q hN hD b2
    clear R1
    go_wp2_with fail
    refine (r1_Write _ _ _ N2.out dl.out.1).mono ?_; rintro e w3 ⟨rfl, hb3⟩
    rw [numV_eq, E1.out]
    have y3 := hid (bnext y2.out hb3)
    have D3 := hid (D2.out.call hb3)
    have g3 := (X2.out.call hb3).cell 2
    simp at g3
    clear hb3 g1 g2
    go_wp2_with fail
    refine (r1_Write _ _ _ D3.out dl.out.2).mono ?_; rintro e w4 ⟨rfl, hb4⟩
    rw [numV_eq, E2.out]
    have y4 := hid (bnext y3.out hb4)
    clear hb4
    go_wp2_with fail
    go_ret
    exact ⟨rfl, y4.out⟩
  · have q0 : decide ((1000 : Int) < (B1.size : Int)) = false := by simp; omega
    have q1 : decide ((1000 : Int) < (B2.size : Int)) = false := by simp; omega
    rw [k3]
    clear k1 k2 k3
    go_enter Tryz.func114, Tryz.ntmps114
    go_wp2_with fail
    refine (R1 _).out.mono ?_; rintro e w1 ⟨hr1, hb1⟩
    obtain ⟨m, a, k, c, a', k', c', rfl, h1, h2⟩ := hr1.open
    have q := h1 HQ.out
    rw [HQ.out]
    obtain ⟨hN, hD⟩ := q.parts
    rw [HN.out] at hN
    rw [HD.out] at hD
    have b2 := hid ((Below.refl w1.heap.size w1).alloc (Nat.le_refl _) (.cells #[.bool m, .slice a k c, .slice a' k' c'] 68))
    have X2 := hid (Blk.new w1 #[.bool m, .slice a k c, .slice a' k' c'] 68)
    have N2 := hid (hN.call b2.out); have D2 := hid (hD.call b2.out)
    have y2 := hid (bnext hb1 b2.out)
    have g1 := X2.out.cell 1
    have g2 := X2.out.cell 2
    simp at g1 g2
    clear h1 h2 hr1 hb1 q hN hD b2
    clear R1
    go_wp2_with fail
    refine (r1_Write _ _ _ N2.out dl.out.1).mono ?_; rintro e w3 ⟨rfl, hb3⟩
    rw [numV_eq, E1.out]
    have y3 := hid (bnext y2.out hb3)
    have D3 := hid (D2.out.call hb3)
    have g3 := (X2.out.call hb3).cell 2
    simp at g3
    clear hb3 g1 g2
    go_wp2_with fail
    refine (r1_Write _ _ _ D3.out dl.out.2).mono ?_; rintro e w4 ⟨rfl, hb4⟩
    rw [numV_eq, E2.out]
    have y4 := hid (bnext y3.out hb4)
    clear hb4
    go_wp2_with fail
    go_ret
    exact ⟨rfl, y4.out⟩
end Go.Proofs.YtccalhlhdiapiaaGreatDoor
namespace Go.Proofs.YtccalhlhdiapiaaGreatDoor
open Go.RowKit
open Go.Lib (decDigits nDigits)
set_option linter.unusedVariables false
set_option linter.unusedSimpArgs false
theorem gPE_ref {s : ByteArray} (h : qE s = 0) : gPE s = if (vQ s).num < 0 then 2 else if (vQ s).den ≤ (vQ s).num.natAbs then 2 else shE (vQ s).num.natAbs (vQ s).den := by
  obtain ⟨e1, e2, e3⟩ := vQ_ok h
  obtain ⟨h1, h2, h3⟩ := qE_zero h
  have hn : iM (cW s) = true ↔ (vQ s).num < 0 := by rw [← e1]; simp
  have hW0 := iB_form (qB_whole h1)
  have hD := qB_below h1
  unfold gPE
  rw [if_neg (by rw [h]; simp)]
  by_cases hm : iM (cW s) = true
  · rw [if_pos (.inl hm), if_pos (hn.1 hm)]
  · have hm' : iM (cW s) = false := by simpa using hm
    rw [iD_plain hm'] at hW0 e2
    unfold qL at h2
    rw [iD_plain hm'] at h2
    simp only [Bool.or_eq_false_iff, decide_eq_false_iff_not] at h2
    have s1 : (cW s).data.toList.length = (cW s).size := Array.length_toList
    have s2 : (qD s).data.toList.length = (qD s).size := Array.length_toList
    have c1 : cmpN (cW s).data.toList (qD s).data.toList = ordN (vQ s).num.natAbs (vQ s).den := by
      rw [cmpN, if_pos ⟨errN_ok (formB_iff.1 hW0) (by omega), errN_ok (formB_iff.1 hD) (by omega)⟩, e2, e3]
      rfl
    have z1 : (cW s).size = nDigits (vQ s).num.natAbs := by rw [e2, ← numB_size, ← numB_of hW0]
    have z2 : (qD s).size = nDigits (vQ s).den := by rw [e3, ← numB_size, ← numB_of hD]
    rw [c1, z1, z2, if_neg (show ¬ (vQ s).num < 0 from fun h => hm (hn.2 h))]
    have ho : 0 ≤ ordN (vQ s).num.natAbs (vQ s).den ↔ (vQ s).den ≤ (vQ s).num.natAbs := by
      unfold ordN
      split
      · constructor <;> intro h <;> omega
      · split <;> constructor <;> intro h <;> omega
    unfold shE
    by_cases hle : (vQ s).den ≤ (vQ s).num.natAbs
    · rw [if_pos (.inr (ho.2 hle)), if_pos hle]
    · rw [if_neg (fun h => h.elim hm (fun h => hle (ho.1 h))), if_neg hle]
end Go.Proofs.YtccalhlhdiapiaaGreatDoor
namespace Go.Proofs.YtccalhlhdiapiaaGreatDoor
open Go.RowKit
open Go.Lib (decDigits nDigits)
set_option linter.unusedVariables false
set_option linter.unusedSimpArgs false
set_option maxRecDepth 100000 in
set_option maxHeartbeats 1000000 in
theorem r6_Ratio (w : World) (s : ByteArray) (hs : s.size ≤ 1000000) : Calls Tryz.prog 66 #[.string s] w fun e w' => e = .returned (.int .i64 (gPE s)) ∧ Below w.heap.size w w' := by
  have R0 := fun V => hid (r2_Check V s hs)
  have R1 := fun V => hid (r2_Read V s hs)
  by_cases hq : qE s = 0
  · have R2 := fun V => hid (r4_Short V s hs hq)
    have hg := gPE_ref hq
    obtain ⟨n, hn⟩ : ∃ n, (vQ s).num.natAbs = n := ⟨_, rfl⟩
    obtain ⟨d, hd⟩ : ∃ d, (vQ s).den = d := ⟨_, rfl⟩
    have HQ := hid hq
    rw [hn, hd] at R2 hg
    rw [hq] at R0
    have HN := hid hn; have HD := hid hd
    clear hs hn hd hq
    by_cases hm : (vQ s).num < 0
    · rw [if_pos hm] at hg
      rw [hg]
      have HM := hid (show decide ((vQ s).num < 0) = true from by simpa using hm)
      clear hg hm R2
      go_enter Tryz.func66, Tryz.ntmps66
      go_wp2_with fail
      refine (R0 _).out.mono ?_; rintro e w0 ⟨rfl, hb0⟩
      have y0 := hid hb0
      clear hb0
      go_wp2_with fail
      refine (R1 _).out.mono ?_; rintro e w1 ⟨hr1, hb1⟩
      obtain ⟨m, a, k, c, a', k', c', rfl, h1, h2⟩ := hr1.open
      have q := h1 HQ.out
      rw [HQ.out]
      have MS := hid q.sign
      obtain ⟨hN, hD⟩ := q.parts
      rw [HN.out] at hN
      rw [HD.out] at hD
      have b2 := hid ((Below.refl w1.heap.size w1).alloc (Nat.le_refl _) (.cells #[.bool m, .slice a k c, .slice a' k' c'] 68))
      have X2 := hid (Blk.new w1 #[.bool m, .slice a k c, .slice a' k' c'] 68)
      have N2 := hid (hN.call b2.out); have D2 := hid (hD.call b2.out)
      have y2 := hid (bnext (bnext y0.out hb1) b2.out)
      have g0 := X2.out.cell 0
      have g1 := X2.out.cell 1
      have g2 := X2.out.cell 2
      simp at g0 g1 g2
      clear h1 h2 hr1 hb1 q hN hD b2
      clear g1 g2
      obtain rfl : m = true := MS.out.trans HM.out
      go_wp2_with fail
      go_ret
      exact ⟨rfl, y2.out⟩
    · rw [if_neg hm] at hg
      have HM := hid (show decide ((vQ s).num < 0) = false from by simpa using hm)
      by_cases hle : d ≤ n
      · rw [if_pos hle] at hg
        rw [hg]
        have HO : Hid (decide (0 ≤ ordN n d) = true) := by
          show decide (0 ≤ ordN n d) = true
          rw [decide_eq_true_iff]
          unfold ordN
          split
          · omega
          · split <;> omega
        clear hg hm R2 hle
        go_enter Tryz.func66, Tryz.ntmps66
        go_wp2_with fail
        refine (R0 _).out.mono ?_; rintro e w0 ⟨rfl, hb0⟩
        have y0 := hid hb0
        clear hb0
        go_wp2_with fail
        refine (R1 _).out.mono ?_; rintro e w1 ⟨hr1, hb1⟩
        obtain ⟨m, a, k, c, a', k', c', rfl, h1, h2⟩ := hr1.open
        have q := h1 HQ.out
        rw [HQ.out]
        have MS := hid q.sign
        obtain ⟨hN, hD⟩ := q.parts
        rw [HN.out] at hN
        rw [HD.out] at hD
        have b2 := hid ((Below.refl w1.heap.size w1).alloc (Nat.le_refl _) (.cells #[.bool m, .slice a k c, .slice a' k' c'] 68))
        have X2 := hid (Blk.new w1 #[.bool m, .slice a k c, .slice a' k' c'] 68)
        have N2 := hid (hN.call b2.out); have D2 := hid (hD.call b2.out)
        have y2 := hid (bnext (bnext y0.out hb1) b2.out)
        have g0 := X2.out.cell 0
        have g1 := X2.out.cell 1
        have g2 := X2.out.cell 2
        simp at g0 g1 g2
        clear h1 h2 hr1 hb1 q hN hD b2
        obtain rfl : m = false := MS.out.trans HM.out
        go_wp2_with fail
        refine (r1_Order _ _ _ _ _ N2.out D2.out).mono ?_; rintro e w3 ⟨rfl, hb3⟩
        have y3 := hid (bnext y2.out hb3)
        clear hb3
        obtain ⟨t, ht⟩ : ∃ t, ordN n d = t := ⟨_, rfl⟩
        have q1 := HO.out
        rw [ht] at q1 ⊢
        clear ht
        go_wp2_with fail
        go_ret
        exact ⟨rfl, y3.out⟩
      · rw [if_neg hle] at hg
        rw [hg]
        have HO : Hid (decide (0 ≤ ordN n d) = false) := by
          show decide (0 ≤ ordN n d) = false
          rw [decide_eq_false_iff_not]
          unfold ordN
          split
          · omega
          · omega
        clear hg hm hle
        obtain ⟨x, hx⟩ : ∃ x, shE n d = x := ⟨_, rfl⟩
        rw [hx] at R2 ⊢
        clear hx
        go_enter Tryz.func66, Tryz.ntmps66
        go_wp2_with fail
        refine (R0 _).out.mono ?_; rintro e w0 ⟨rfl, hb0⟩
        have y0 := hid hb0
        clear hb0
        go_wp2_with fail
        refine (R1 _).out.mono ?_; rintro e w1 ⟨hr1, hb1⟩
        obtain ⟨m, a, k, c, a', k', c', rfl, h1, h2⟩ := hr1.open
        have q := h1 HQ.out
        rw [HQ.out]
        have MS := hid q.sign
        obtain ⟨hN, hD⟩ := q.parts
        rw [HN.out] at hN
        rw [HD.out] at hD
        have b2 := hid ((Below.refl w1.heap.size w1).alloc (Nat.le_refl _) (.cells #[.bool m, .slice a k c, .slice a' k' c'] 68))
        have X2 := hid (Blk.new w1 #[.bool m, .slice a k c, .slice a' k' c'] 68)
        have N2 := hid (hN.call b2.out); have D2 := hid (hD.call b2.out)
        have y2 := hid (bnext (bnext y0.out hb1) b2.out)
        have g0 := X2.out.cell 0
        have g1 := X2.out.cell 1
        have g2 := X2.out.cell 2
        simp at g0 g1 g2
        clear h1 h2 hr1 hb1 q hN hD b2
        obtain rfl : m = false := MS.out.trans HM.out
        go_wp2_with fail
        refine (r1_Order _ _ _ _ _ N2.out D2.out).mono ?_; rintro e w3 ⟨rfl, hb3⟩
        have y3 := hid (bnext y2.out hb3)
        clear hb3
        obtain ⟨t, ht⟩ : ∃ t, ordN n d = t := ⟨_, rfl⟩
        have q1 := HO.out
        rw [ht] at q1 ⊢
        clear ht
        go_wp2_with fail
        refine (R2 _).out.mono ?_; rintro e w4 ⟨rfl, hb4⟩
        have y4 := hid (bnext y3.out hb4)
        clear hb4
        go_wp2_with fail
        go_ret
        exact ⟨rfl, y4.out⟩
  · have hg : gPE s = qE s := if_pos hq
    rw [hg]
    obtain ⟨x, hx⟩ : ∃ x, qE s = x := ⟨_, rfl⟩
    rw [hx] at hq R0 ⊢
    have q0 : (x != 0) = true := by simpa using hq
    clear hq hx hg hs R1
    go_enter Tryz.func66, Tryz.ntmps66
    go_wp2_with fail
    refine (R0 _).out.mono ?_; rintro e w0 ⟨rfl, hb0⟩
    have y0 := hid hb0
    clear hb0
    go_wp2_with fail
    go_ret
    exact ⟨rfl, y0.out⟩
end Go.Proofs.YtccalhlhdiapiaaGreatDoor
namespace Go.Proofs.YtccalhlhdiapiaaGreatDoor
open Go.RowKit Go.Shelf
open Go.Lib (decDigits nDigits)
set_option linter.unusedVariables false
set_option linter.unusedSimpArgs false
def ttF (N D n k : Nat) : Nat := (tOut (oneJ N D) (zeroJ N D) n (n + 1)).2.getD k 0
def t2F (N D n i : Nat) : Nat := sumN (fun i => ttF N D n i * cw (n - i) (decP N D)) i
section
variable {N D : Nat} (h : N < D)
include h
theorem ttF_pw {n m : Nat} (hm : m ≤ n) : cvo (ttF N D n) pw2 m = cw m (decP N D) := tot_dec h n hm
theorem t2F_end (n : Nat) : t2F N D n (n + 1) = cw n (dec2P N D) := dec2_sum h n
omit h in
theorem cw_le (n : Nat) (P : List UInt8 → Bool) : cw n P ≤ 2 ^ n := by have := cw_not P n; omega
theorem t2F_le {n i : Nat} (hi : i ≤ n + 1) : t2F N D n i ≤ 2 ^ n := Nat.le_trans (sumN_mono hi) (by rw [show sumN (fun i => ttF N D n i * cw (n - i) (decP N D)) (n + 1) = cw n (dec2P N D) from dec2_sum h n]; exact cw_le _ _)
theorem ttF_le {n i : Nat} (hi : i ≤ n) : ttF N D n i ≤ 2 ^ n := Nat.le_trans (f_le_cvo _ _) (by rw [ttF_pw h hi]; exact Nat.le_trans (cw_le _ _) (Nat.pow_le_pow_right (by omega) hi))
end
set_option maxRecDepth 100000 in
set_option maxHeartbeats 2000000 in
theorem er_late_ok (w : World) (a : ByteArray) (n : Nat) (two : Bool) (ha : a.size ≤ 100000) (he : gPE a = 0) (hn : n ≤ 256) (h0 : a ≠ ⟨#[48]⟩) :
    Calls Tryz.prog 32 #[.string a, .int .i64 (n : Nat), .bool two] w fun e w' => e = .returned (.tuple #[.string (shB (gL (bN (cW a)) (bN (qD a)) two n) (2 ^ n)), .int .i64 0]) ∧ Below w.heap.size w w' := by
  have HA := hid (r6_Ratio w a (by omega))
  rw [he] at HA
  obtain ⟨hq, hm⟩ := ratio_q he
  have HR := fun V => hid (r2_Read0 V a (by omega))
  rw [hq, iD_plain hm, hm] at HR
  obtain ⟨N, hN⟩ : ∃ N, bN (cW a) = N := ⟨_, rfl⟩
  obtain ⟨D, hD⟩ : ∃ D, bN (qD a) = D := ⟨_, rfl⟩
  have hND := (gPE_ok he).2
  have hpos := ratio_pos he h0
  have hdg : ∀ j, j ≤ n → nDigits (N * 2 ^ j) ≤ 4000 := fun j hj => by rw [← hN]; exact ratio_dig he (by omega)
  rw [hN] at HR hND hpos
  rw [hD] at HR hND
  rw [hN, hD]
  have HT := fun V m v1 v2 k1 k2 => hid (er_decided V m v1 v2 N D n (by omega) hpos hND k1 k2 hdg)
  have HND := hid hND; have HN := hid hn
  have n0 : (decide ((n : Int) < 0)) = false := by simp
  have n1 : (decide ((256 : Int) < (n : Int))) = false := by simp; omega
  have ze : (a.toList == [48]) = false := by
    have e : a.toList = a.data.toList := ByteArray.toList_eq a
    rw [e, beq_eq_false_iff_ne]
    exact fun e => h0 (ba_ext e)
  clear ha he hq hm hN hD hND hpos hdg h0
  go_enter Tryz.func32, Tryz.ntmps32
  go_wp2_with fail
  refine HA.out.mono ?_; rintro e w1 ⟨rfl, hb1⟩
  have B1 := hid hb1; clear hb1 HA
  go_wp2_with fail
  refine (HR _).out.mono ?_; rintro e w2 ⟨⟨v, rfl, hv, -⟩, hb2⟩
  obtain ⟨vN, vD, rfl, hvN, hvD⟩ := hv rfl
  obtain ⟨aN, cN, rfl, -, -, -⟩ := hvN.openI
  obtain ⟨aD, cD, rfl, -, -, -⟩ := hvD.openI
  have B2 := hid (bnext B1.out hb2)
  obtain ⟨lN, hlN⟩ : ∃ l, (limbs N).length = l := ⟨_, rfl⟩
  obtain ⟨lD, hlD⟩ : ∃ l, (limbs D).length = l := ⟨_, rfl⟩
  rw [hlN] at hvN ⊢
  rw [hlD] at hvD ⊢
  have C2 := hid ((Below.refl w2.heap.size w2).alloc (Nat.le_refl _) (.cells #[.bool false, .slice aN lN cN, .slice aD lD cD] 68))
  have VN := hid (hvN.call C2.out); have VD := hid (hvD.call C2.out)
  have B3 := hid (bnext B2.out C2.out)
  clear hv hb2 hvN hvD hlN hlD HR
  go_wp2_with fail
  refine (HT _ _ _ _ VN.out VD.out).out.mono ?_; rintro e w3 ⟨⟨gl, cl, rfl, htl⟩, hb3⟩
  have TL : Hid (NTab w.heap.size w3 gl (n + 1) cl (ttF N D n)) := htl.mono B3.out.size
  have B4 := hid (bnext B3.out hb3)
  have HDP : Hid (∀ i, i ≤ n → nDigits (cvo (ttF N D n) pw2 i) ≤ 4000) := fun i hi => by
    rw [ttF_pw HND.out hi]
    exact two_pow_digits (cw_le _ _) (by have := HN.out; omega)
  clear htl hb3 HT VN VD
  go_wp2_with fail
  refine (er_within _ _ n (ttF N D n) (by have := HN.out; omega) TL.out.row HDP.out).mono ?_; rintro e w4 ⟨⟨gd, cd, rfl, htd⟩, hb4⟩
  have TD := hid (htd.mono B4.out.size)
  have TL4 := hid (TL.out.call hb4)
  have B5 := hid (bnext B4.out hb4)
  clear htd hb4 TL
  obtain ⟨xd, cxd, hxd, -⟩ := TD.out.at (i := n) (by omega)
  have XD := hid hxd
  have f0 : (0 : Int) ≤ (n : Int) := by omega
  have f1 : (n : Int) < ((n + 1 : Nat) : Int) := by omega
  have f1' : (n : Int) < (n : Int) + 1 := by omega
  have HTw := fun V => hid (r3_Two V n (by have := HN.out; omega))
  have HSh := fun V u x hu hx => hid (r3_Share V u x n hu (by have := HN.out; omega) hx)
  have LP : Hid ((limbs (2 ^ n)).length ≤ 1000000) := num_limbs (two_pow_digits (Nat.le_refl _) (by have := HN.out; omega))
  have E256 : Hid (∀ x, 2 ^ n - x ≤ 2 ^ 256) := fun x => Nat.le_trans (Nat.sub_le _ _) (Nat.pow_le_pow_right (by omega) HN.out)
  clear hxd hn
  cases two
  · have ED : Hid (2 ^ n - cvo (ttF N D n) pw2 n = gL N D false n) := by
      show _ = _
      rw [ttF_pw HND.out (Nat.le_refl n), gL_dec]
    have LE : Hid (cvo (ttF N D n) pw2 n ≤ 2 ^ n) := by
      show _ ≤ _
      rw [ttF_pw HND.out (Nat.le_refl n)]; exact cw_le _ _
    go_wp2_with fail
    refine (HTw _).out.mono ?_; rintro e w6 ⟨⟨vt, rfl, hvt⟩, hbt⟩
    have VT := hid hvt; have XD6 := hid (XD.out.call hbt); have B6 := hid (bnext B5.out hbt)
    clear hvt hbt
    go_wp2_with fail
    refine (r1_Minus _ _ _ _ _ VT.out XD6.out LE.out LP.out).mono ?_; rintro e w7 ⟨⟨vm, rfl, hvm⟩, hbm⟩
    have VM := hid hvm; have B7 := hid (bnext B6.out hbm)
    clear hvm hbm
    go_wp2_with fail
    refine (HSh _ _ _ VM.out (E256.out _)).out.mono ?_; rintro e w8 ⟨rfl, hbs⟩
    have B8 := hid (bnext B7.out hbs)
    clear hbs
    go_wp2_with fail
    rw [ED.out]
    go_ret2
    exact ⟨rfl, B8.out⟩
  · have HR0 := fun V => hid (read_zero V)
    have ED : Hid (2 ^ n - t2F N D n (n + 1) = gL N D true n) := by
      show _ = _
      rw [t2F_end HND.out, gL_dec2]
    have LE : Hid (∀ i, i ≤ n + 1 → t2F N D n i ≤ 2 ^ n) := fun i hi => t2F_le HND.out hi
    clear XD
    go_wp2_with fail
    clear cxd
    refine (HR0 _).out.mono ?_; rintro e w6 ⟨⟨v0, rfl, hv0, -⟩, hb0⟩
    have V0 : Hid (IsN .i64 w6 v0 (t2F N D n 0)) := hv0
    have B6 := hid (bnext B5.out hb0)
    have TD6 := hid (TD.out.call hb0); have TL6 := hid (TL4.out.call hb0)
    clear hv0 hb0 TD TL4 HR0
    go_wp2_with fail
    go_loopw [13, 14] (fun s13 s14 wr => ∃ i : Nat, s14 = .int .i64 (i : Nat) ∧ i ≤ n + 1 ∧ Hid (IsN .i64 wr s13 (t2F N D n i)) ∧ Hid (NTab w.heap.size wr gl (n + 1) cl (ttF N D n)) ∧ Hid (NTab w.heap.size wr gd (n + 1) cd (cvo (ttF N D n) pw2)) ∧ Hid (Below w.heap.size w wr)) (fun s13 s14 wr => n + 1 - (intOf s14).toNat)
    case atStart => exact ⟨0, rfl, Nat.zero_le _, V0, TL6, TD6, B6⟩
    case round =>
      clear V0 TL6 TD6 B6
      obtain ⟨i, rfl, hi, hV, hL, hT, hB⟩ := hrel
      by_cases hlt : i ≤ n
      · have q0 : decide ((i : Int) ≤ (n : Int)) = true := by simp; omega
        have d0 : decide (i ≤ n) = true := by simp; omega
        have e0 : (0 : Int) ≤ (i : Int) := by omega
        have e1 : (i : Int) < ((n + 1 : Nat) : Int) := by omega
        have e1' : (i : Int) < (n : Int) + 1 := by omega
        have e2 : (0 : Int) ≤ (n : Int) - (i : Int) := by omega
        have e3 : (n : Int) - (i : Int) < ((n + 1 : Nat) : Int) := by omega
        have e3' : (n : Int) - (i : Int) < (n : Int) + 1 := by omega
        have ws : IntKind.i64.wrap ((n : Int) - (i : Int)) = (n : Int) - (i : Int) := by have := HN.out; rw [IntWalk.i64_in _ ⟨by omega, by omega⟩]
        have wi : IntKind.i64.wrap ((i : Int) + 1) = ((i + 1 : Nat) : Int) := by have := HN.out; rw [IntWalk.i64_in _ ⟨by omega, by omega⟩]; omega
        have et : ((n : Int) - (i : Int)).toNat = n - i := by omega
        have IL := hid hlt
        obtain ⟨x, cx, hx, -⟩ := hL.out.at (i := i) (by omega)
        obtain ⟨y, cy, hy, -⟩ := hT.out.at (i := n - i) (by omega)
        have XN := hid hx; have YN := hid hy
        have LX : Hid ((limbs (ttF N D n i)).length ≤ 1000000) := num_limbs (two_pow_digits (ttF_le HND.out hlt) (by have := HN.out; omega))
        have LY : Hid ((limbs (cvo (ttF N D n) pw2 (n - i))).length ≤ 1000000) := num_limbs (HDP.out _ (by omega))
        have LS : Hid ((limbs (t2F N D n i)).length ≤ 1000000) := num_limbs (two_pow_digits (LE.out i hi) (by have := HN.out; omega))
        have ST : Hid (t2F N D n i + ttF N D n i * cvo (ttF N D n) pw2 (n - i) = t2F N D n (i + 1)) := by
          show _ = _
          rw [ttF_pw HND.out (show n - i ≤ n by omega)]; rfl
        have LM : Hid ((limbs (ttF N D n i * cvo (ttF N D n) pw2 (n - i))).length ≤ 1000000) := num_limbs (two_pow_digits (Nat.le_trans (by rw [← ST.out]; omega) (LE.out (i + 1) (by omega))) (by have := HN.out; omega))
        clear hx hy hi hlt
        go_wp2_with fail
        have e4 := IL.out
        refine held_lasts 13 1 [0, 1, 2, 3, 4, 5, 6, 7, 8, 9, 10] 2 (fun W' => W'.cell? ⟨gl, i, none⟩ = some x ∧ W'.cell? ⟨gd, n - i, none⟩ = some y) (by kernel_rfl) rfl (by kernel_rfl) (by kernel_rfl) (by kernel_rfl) (by kernel_rfl) ⟨cx, cy⟩ ?_
        iterate 11
          refine ⟨_, rfl, ?_⟩
          apply Exists.intro
          refine ⟨.inl ⟨by rfl, ?_⟩, ?_⟩
          · (intro W' hW'; obtain ⟨r1, r2⟩ := hW'; go_simp; try (with_reducible rfl))
          (dsimp only [Act.put]; try simp only [List.setIfInBounds_toArray, List.set_cons_zero, List.set_cons_succ])
        refine held_one (i := 11) (by kernel_rfl) (by rfl) (by rfl) ?_
        go_wp2_with fail
        refine (r1_Times _ _ _ _ _ (XN.out.call (Below.refl _ _).drew) (YN.out.call (Below.refl _ _).drew) LX.out LY.out).mono ?_; rintro e wa ⟨⟨vp, rfl, hvp⟩, hba⟩
        have A1 := hid (show Below wr.heap.size wr wa from (Below.refl _ _).drew.trans hba); have VP := hid hvp
        have m1 := (A1.out.cell (cell_lt cx)).trans cx
        have m2 := (A1.out.cell (cell_lt cy)).trans cy
        clear hba hvp cx cy e4
        go_wp2_with fail
        refine ⟨⟨m1, m2⟩, ?_⟩
        refine held_one (i := 12) (by kernel_rfl) (by rfl) (by rfl) ?_
        go_wp2_with fail
        refine (r1_Plus _ _ _ _ _ (hV.out.call A1.out) VP.out LS.out LM.out).mono ?_; rintro e wb ⟨⟨vs, rfl, hvs⟩, hbb⟩
        have A2 := hid (bnext A1.out hbb); have VS := hid (hvs.cast ST.out)
        have k1 := (hbb.cell (cell_lt m1)).trans m1
        have k2 := (hbb.cell (cell_lt m2)).trans m2
        clear hbb hvs m1 m2
        go_wp2_with fail
        refine ⟨⟨k1, k2⟩, ?_⟩
        refine wpAnyH_done (by kernel_rfl) ?_ _
        simp only [Only, ThenL, List.drop_succ_cons, List.drop_zero]
        have NL := hid (hL.out.call A2.out); have ND := hid (hT.out.call A2.out); have NB := hid (hB.out.trans (A2.out.mono hB.out.size))
        clear k1 k2
        go_wp2_with fail
        try simp only [Only]
        go_roundw
        case rel => exact ⟨i + 1, by go_num, by have := IL.out; omega, VS, NL, ND, NB⟩
        case measure => simp [intOf] <;> (have := IL.out; omega)
      · have e1 : i = n + 1 := by omega
        subst e1
        have q0 : decide (((n + 1 : Nat) : Int) ≤ (n : Int)) = false := by simp; omega
        have d0 : decide ((n : Int) + 1 ≤ (n : Int)) = false := by simp; omega
        clear hi hlt
        go_wp2_with fail
        refine (HTw _).out.mono ?_; rintro e w6 ⟨⟨vt, rfl, hvt⟩, hbt⟩
        have VT := hid hvt; have XD6 := hid (hV.out.call hbt); have B7 := hid (bnext hB.out hbt)
        clear hvt hbt
        go_wp2_with fail
        refine (r1_Minus _ _ _ _ _ VT.out XD6.out (LE.out _ (Nat.le_refl _)) LP.out).mono ?_; rintro e w7 ⟨⟨vm, rfl, hvm⟩, hbm⟩
        have VM := hid hvm; have B8 := hid (bnext B7.out hbm)
        clear hvm hbm
        go_wp2_with fail
        refine (HSh _ _ _ VM.out (E256.out _)).out.mono ?_; rintro e w8 ⟨rfl, hbs⟩
        have B9 := hid (bnext B8.out hbs)
        clear hbs
        go_wp2_with fail
        rw [ED.out]
        go_ret2
        exact ⟨rfl, B9.out⟩
end Go.Proofs.YtccalhlhdiapiaaGreatDoor
namespace Go.Proofs.YtccalhlhdiapiaaGreatDoor
open Go.RowKit Go.Shelf
open Go.Lib (decDigits nDigits)
set_option linter.unusedVariables false
set_option linter.unusedSimpArgs false
set_option maxRecDepth 100000 in
set_option maxHeartbeats 1000000 in
theorem er_late (w : World) (a : ByteArray) (n : Int) (two : Bool) (ha : a.size ≤ 100000) :
    Calls Tryz.prog 32 #[.string a, .int .i64 n, .bool two] w fun e w' => e = .returned (.tuple #[.string (glB a n two), .int .i64 (glE a n 256)]) ∧ Below w.heap.size w w' := by
  have HA := hid (r6_Ratio w a (by omega))
  by_cases he : gPE a = 0
  · by_cases hn : n < 0 ∨ 256 < n
    · have e1 : glE a n 256 = 2 := by unfold glE; rw [if_neg (by rw [he]; simp), if_pos hn]
      have e2 : glB a n two = ⟨#[]⟩ := by unfold glB; rw [if_neg (by rw [e1]; decide)]
      rw [e1, e2]
      rw [he] at HA
      obtain ⟨b1, k1⟩ : ∃ b, decide (n < 0) = b := ⟨_, rfl⟩
      obtain ⟨b2, k2⟩ : ∃ b, decide (256 < n) = b := ⟨_, rfl⟩
      have k3 : (b1 || b2) = true := by rw [← k1, ← k2]; simpa using hn
      clear ha he hn e1 e2
      cases b1
      · obtain rfl : b2 = true := by simpa using k3
        clear k3
        go_enter Tryz.func32, Tryz.ntmps32
        go_wp2_with fail
        refine HA.out.mono ?_; rintro e w1 ⟨rfl, hb1⟩
        have B1 := hid hb1; clear hb1 HA
        go_wp2_with fail
        go_ret2
        exact ⟨rfl, B1.out⟩
      · clear k2 k3
        go_enter Tryz.func32, Tryz.ntmps32
        go_wp2_with fail
        refine HA.out.mono ?_; rintro e w1 ⟨rfl, hb1⟩
        have B1 := hid hb1; clear hb1 HA
        go_wp2_with fail
        go_ret2
        exact ⟨rfl, B1.out⟩
    · obtain ⟨m, rfl⟩ : ∃ m : Nat, n = (m : Nat) := ⟨n.toNat, by omega⟩
      have e1 : glE a (m : Nat) 256 = 0 := by unfold glE; rw [if_neg (by rw [he]; simp), if_neg hn]
      unfold glB
      rw [if_pos e1, e1]
      by_cases h0 : a = ⟨#[48]⟩
      · obtain ⟨q1, q2⟩ := ratio_null h0
        rw [q1, q2, gL_null (by omega), shB_zero]
        rw [he] at HA
        have ze : (a.toList == [48]) = true := by rw [h0]; exact lit_zero
        have n0 : (decide ((m : Int) < 0)) = false := by simp
        have n1 : (decide ((256 : Int) < (m : Int))) = false := by simp; omega
        clear ha he hn e1 q1 q2 h0
        go_enter Tryz.func32, Tryz.ntmps32
        go_wp2_with fail
        refine HA.out.mono ?_; rintro e w1 ⟨rfl, hb1⟩
        have B1 := hid hb1; clear hb1 HA
        go_wp2_with fail
        go_ret2
        exact ⟨rfl, B1.out⟩
      · exact er_late_ok w a m two ha he (by omega) h0
  · have e1 : glE a n 256 = gPE a := by unfold glE; rw [if_pos he]
    have e2 : glB a n two = ⟨#[]⟩ := by unfold glB; rw [if_neg (by rw [e1]; exact he)]
    rw [e1, e2]
    obtain ⟨x, hx⟩ : ∃ x, gPE a = x := ⟨_, rfl⟩
    rw [hx] at HA he ⊢
    have x0 : (x != 0) = true := by simpa using he
    clear ha he hx e1 e2
    go_enter Tryz.func32, Tryz.ntmps32
    go_wp2_with fail
    refine HA.out.mono ?_; rintro e w1 ⟨rfl, hb1⟩
    have B1 := hid hb1; clear hb1 HA
    go_wp2_with fail
    go_ret2
    exact ⟨rfl, B1.out⟩
set_option maxRecDepth 100000 in
set_option maxHeartbeats 1000000 in
theorem er_TwoLate (w : World) (a : ByteArray) (n : Int) (ha : a.size ≤ 100000) :
    Calls Tryz.prog 11 #[.string a, .int .i64 n] w fun e w' => e = .returned (.tuple #[.string (glB a n true), .int .i64 (glE a n 256)]) ∧ Below w.heap.size w w' := by
  have H := hid (er_late w a n true ha)
  obtain ⟨o, ho⟩ : ∃ o, glB a n true = o := ⟨_, rfl⟩
  obtain ⟨x, hx⟩ : ∃ x, glE a n 256 = x := ⟨_, rfl⟩
  rw [ho, hx] at H ⊢
  clear ha ho hx
  go_enter Tryz.func11, Tryz.ntmps11
  go_wp2_with fail
  refine H.out.mono ?_; rintro e w1 ⟨rfl, hb1⟩
  have B1 := hid hb1; clear hb1
  go_wp2_with fail
  go_ret2
  exact ⟨rfl, B1.out⟩
set_option maxRecDepth 100000 in
set_option maxHeartbeats 1000000 in
theorem er_OneLate (w : World) (a : ByteArray) (n : Int) (ha : a.size ≤ 100000) :
    Calls Tryz.prog 9 #[.string a, .int .i64 n] w fun e w' => e = .returned (.tuple #[.string (glB a n false), .int .i64 (glE a n 256)]) ∧ Below w.heap.size w w' := by
  have H := hid (er_late w a n false ha)
  obtain ⟨o, ho⟩ : ∃ o, glB a n false = o := ⟨_, rfl⟩
  obtain ⟨x, hx⟩ : ∃ x, glE a n 256 = x := ⟨_, rfl⟩
  rw [ho, hx] at H ⊢
  clear ha ho hx
  go_enter Tryz.func9, Tryz.ntmps9
  go_wp2_with fail
  refine H.out.mono ?_; rintro e w1 ⟨rfl, hb1⟩
  have B1 := hid hb1; clear hb1
  go_wp2_with fail
  go_ret2
  exact ⟨rfl, B1.out⟩
end Go.Proofs.YtccalhlhdiapiaaGreatDoor
namespace Go.Proofs.YtccalhlhdiapiaaGreatDoor
open Go.RowKit Go.Shelf
set_option linter.unusedVariables false
set_option linter.unusedSimpArgs false
theorem row_grown {w w' : World} {row : Option Nat} {v : Value} {xs : List Value} (h : Row w v xs) (hg : w.grownBy w' row) (hne : ∀ g, v.ownBlock = some g → row ≠ some g) : Row w' v xs := by
  obtain ⟨a, c, rfl, h1, h2, h3⟩ := h.ex
  refine ⟨a, c, rfl, h1, h2, fun i x hx => ?_⟩
  obtain ⟨g, o, rfl, hg', hc⟩ := h3 i x hx
  exact ⟨g, o, rfl, Nat.lt_of_lt_of_le hg' hg.size, hg.cell hc (fun e => hne g rfl e.symm)⟩
theorem row_lt {w : World} {v : Value} {xs : List Value} {g : Nat} (h : Row w v xs) (h0 : 0 < xs.length) (hg : v.ownBlock = some g) : g < w.heap.size := by
  obtain ⟨a, c, rfl, h1, h2, h3⟩ := h.ex
  obtain ⟨g', o, rfl, hg', hc⟩ := h3 0 _ (List.getElem?_eq_getElem h0)
  simp only [Value.ownBlock, Option.some.injEq] at hg
  omega
def NRowX (w : World) (x : Value) (m : Nat) (f : Nat → Nat) (o : Value) : Prop := ∃ ys : List Value, ys.length = m ∧ Row w x ys ∧ (∀ g, x.ownBlock = some g → o.ownBlock ≠ some g) ∧ ∀ j y, ys[j]? = some y → IsN .i64 w y (f j) ∧ Ap y o (f j)
theorem NRowX.row {w : World} {x o : Value} {m : Nat} {f : Nat → Nat} (h : NRowX w x m f o) : NRow w x m f := by
  obtain ⟨ys, h1, h2, h3, h4⟩ := h
  exact ⟨ys, h1, h2, fun j y hy => (h4 j y hy).1⟩
theorem NRowX.call {w w' : World} {x o : Value} {m : Nat} {f : Nat → Nat} (h : NRowX w x m f o) (hb : Below w.heap.size w w') : NRowX w' x m f o := by
  obtain ⟨ys, h1, h2, h3, h4⟩ := h
  exact ⟨ys, h1, h2.call hb, h3, fun j y hy => ⟨(h4 j y hy).1.call hb, (h4 j y hy).2⟩⟩
theorem NRowX.of {w : World} {B g m c : Nat} {f : Nat → Nat} {o : Value} (h : NTab B w g m c f) (ho : ∀ b, o.ownBlock = some b → b < B) : NRowX w (.slice (some ⟨g, 0, none⟩) m c) m f o := by
  have hs := h.slot
  obtain ⟨vs, h1, h2⟩ := h.ex
  refine ⟨vs, by have := h1.1; omega, Row.of_owns h1, fun b hb e => ?_, fun j y hy => ⟨(h2 j y hy).1, (h2 j y hy).2.imp id fun k b hb e => ?_⟩⟩
  · have := ho b e
    simp only [Value.ownBlock, Option.some.injEq] at hb
    omega
  · have := ho b e
    have := (k b hb).1
    omega
theorem NRowX.grow {w w3 : World} {x v v3 : Value} {m : Nat} {f : Nat → Nat} (h : NRowX w x m f v) (h0 : 0 < m) (hg : w.grownBy w3 v.ownBlock) (hat : v3.ownBlock = v.ownBlock ∨ v3.ownBlock = some w.heap.size) : NRowX w3 x m f v3 := by
  obtain ⟨ys, h1, h2, h3, h4⟩ := h
  refine ⟨ys, h1, row_grown h2 hg h3, fun g hx => ?_, fun j y hy => ⟨isN_grown (h4 j y hy).1 hg (h4 j y hy).2, ?_⟩⟩
  · rcases hat with e | e
    · rw [e]; exact h3 g hx
    · rw [e]
      intro e'
      injection e' with e'
      have := row_lt h2 (by omega) hx
      omega
  · obtain ⟨q1, q2⟩ := h4 j y hy
    by_cases hz : f j = 0
    · exact .inl hz
    · refine .inr fun g hx => ?_
      rcases q2 with e | q2
      · exact absurd e hz
      · rcases hat with e | e
        · rw [e]; exact q2 g hx
        · rw [e]
          intro e'
          injection e' with e'
          have := isN_lt q1 hz hx
          omega
def NSeg (B : Nat) (w : World) (v : Value) (r m : Nat) (f : Nat → Nat → Nat) : Prop := ∃ vs : List Value, w.ownsRow B 83 1 v r vs ∧ ∀ k x, vs[k]? = some x → NRowX w x m (f k) v
theorem NSeg.nil (B : Nat) (w : World) (m : Nat) (f : Nat → Nat → Nat) : NSeg B w (.slice none 0 0) 0 m f := ⟨[], World.ownsRow_nil _ _ _ _, fun j x hx => by simp at hx⟩
theorem NSeg.call {B : Nat} {w w' : World} {v : Value} {r m : Nat} {f : Nat → Nat → Nat} (h : NSeg B w v r m f) (hb : Below w.heap.size w w') : NSeg B w' v r m f := by
  obtain ⟨vs, h1, h2⟩ := h
  exact ⟨vs, h1.kept (below_grown hb none) (by cases hv : v.ownBlock <;> simp), fun j x hx => (h2 j x hx).call hb⟩
theorem NSeg.mono {B B' : Nat} {w : World} {v : Value} {r m : Nat} {f : Nat → Nat → Nat} (h : NSeg B w v r m f) (hB : B' ≤ B) : NSeg B' w v r m f := by
  obtain ⟨vs, h1, h2⟩ := h
  refine ⟨vs, ⟨h1.1, ?_⟩, h2⟩
  rcases h1.2 with h0 | ⟨g', cap, cur, e, k1, k2, k3⟩
  · exact .inl h0
  · exact .inr ⟨g', cap, cur, e, by omega, k2, k3⟩
theorem NSeg.next {B : Nat} {w w1 w3 : World} {v v3 : Value} {r m g c : Nat} {f : Nat → Nat → Nat} {o : Obj} {vs : List Value} (h0 : 0 < m) (k1 : w.ownsRow B 83 1 v r vs) (k2 : ∀ k x, vs[k]? = some x → NRowX w x m (f k) v) (hb : Below w.heap.size w w1) (hx : NTab w.heap.size w1 g m c (f r))
    (h3 : w3.ownsRow B 83 1 v3 (r + 1) (vs ++ [.slice (some ⟨g, 0, none⟩) m c])) (hg : (w1.alloc o).grownBy w3 v.ownBlock) (hat : v3.ownBlock = v.ownBlock ∨ v3.ownBlock = some (w1.alloc o).heap.size) : NSeg B w3 v3 (r + 1) m f := by
  have hal : Below w1.heap.size w1 (w1.alloc o) := (Below.refl _ _).alloc (Nat.le_refl _) o
  have hl : vs.length = r := by have := k1.1; omega
  refine ⟨vs ++ [.slice (some ⟨g, 0, none⟩) m c], h3, fun k x hk => ?_⟩
  have key : NRowX w1 x m (f k) v := by
    by_cases hj : k < vs.length
    · rw [List.getElem?_append_left hj] at hk
      exact (k2 k x hk).call hb
    · rw [List.getElem?_append_right (by omega)] at hk
      have hj' : k - vs.length = 0 := by
        rcases Nat.eq_zero_or_pos (k - vs.length) with h | h
        · exact h
        · rw [List.getElem?_eq_none (by simp; omega)] at hk; cases hk
      rw [hj'] at hk
      obtain rfl : k = r := by omega
      simp at hk
      subst hk
      exact NRowX.of hx fun b hb' => (k1.lt b hb').2
  exact (key.call hal).grow h0 hg hat
theorem NSeg.open {B : Nat} {w : World} {v : Value} {r m : Nat} {f : Nat → Nat → Nat} (h : NSeg B w v (r + 1) m f) : ∃ g c, v = .slice (some ⟨g, 0, none⟩) (r + 1) c ∧ r + 1 ≤ c ∧ c ≤ 9223372036854775807 ∧ g < w.heap.size ∧ ∀ k, k ≤ r → ∃ x, w.cell? ⟨g, k, none⟩ = some x ∧ NRow w x m (f k) := by
  obtain ⟨vs, h1, h2⟩ := h
  obtain ⟨g, c, rfl, -, -⟩ := h1.form (Nat.succ_pos r)
  have hs := own_slot h1
  have hl : vs.length = r + 1 := by have := h1.1; omega
  refine ⟨g, c, rfl, hs.2.2.2.2.2.1, hs.2.2.2.2.1, hs.2.1, fun k hk => ?_⟩
  obtain ⟨x, hx⟩ : ∃ x, vs[k]? = some x := ⟨_, List.getElem?_eq_getElem (by omega)⟩
  exact ⟨x, hs.2.2.2.1 k x hx, (h2 k x hx).row⟩
end Go.Proofs.YtccalhlhdiapiaaGreatDoor
namespace Go.Proofs.YtccalhlhdiapiaaGreatDoor
open Go.RowKit Go.Shelf
open Go.Lib (decDigits nDigits)
set_option linter.unusedVariables false
set_option linter.unusedSimpArgs false
theorem info_tls : (Tryz.prog.info? 83).map (fun i => (i.zero, i.size, i.bytes)) = some (some (.slice none 0 0), 1, 24) := by kernel_rfl
set_option maxRecDepth 100000 in
set_option maxHeartbeats 4000000 in
theorem er_ended (w : World) (m : Bool) (vN vD : Value) (N D n : Nat) (hn : n ≤ 32) (h0 : 0 < N) (hND : N < D) (hN : IsN .i64 w vN N) (hD : IsN .i64 w vD D) (hd : ∀ j, j ≤ n → nDigits (N * 2 ^ j) ≤ 4000) :
    Calls Tryz.prog 79 #[.agg #[.bool m, vN, vD], .int .i64 (n : Nat)] w fun e w' => (∃ v, e = .returned v ∧ NSeg w.heap.size w' v (n + 1) (n + 1) (edn N D)) ∧ Below w.heap.size w w' := by
  obtain ⟨i0, hi, hz0, hz1, hz2⟩ := info_parts info_tls
  obtain ⟨aN, cN, rfl, -, -, -⟩ := hN.openI
  obtain ⟨aD, cD, rfl, -, -, -⟩ := hD.openI
  obtain ⟨lN, hlN⟩ : ∃ l, (limbs N).length = l := ⟨_, rfl⟩
  obtain ⟨lD, hlD⟩ : ∃ l, (limbs D).length = l := ⟨_, rfl⟩
  rw [hlN] at hN ⊢
  rw [hlD] at hD ⊢
  have HT := fun V hV1 hV2 => hid (er_tossed V m (.slice aN lN cN) (.slice aD lD cD) N D n (by omega) h0 hND hV1 hV2 hd)
  have NN := hid hN; have ND := hid hD
  have HN := hid hn
  clear hN hD hd
  go_enter Tryz.func79, Tryz.ntmps79
  go_wp2_with fail
  have C0 := hid ((Below.refl w.heap.size w).alloc (Nat.le_refl _) (.cells #[.bool m, .slice aN lN cN, .slice aD lD cD] 68))
  refine (HT _ (NN.out.call C0.out) (ND.out.call C0.out)).out.mono ?_; rintro e w1 ⟨⟨u1, u2, rfl, hu1, hu2⟩, hb1⟩
  obtain ⟨a1, c1, rfl, p1, p2, -⟩ := hu1.ex
  obtain ⟨a2, c2, rfl, p3, p4, -⟩ := hu2.ex
  simp only [bls_len] at p1 p3 hu1 hu2 ⊢
  have HZ := fun V => hid (er_zeros V n (by omega))
  have HR := fun V => hid (read_one V)
  have Z1 : Hid (oneJ N D 0 = false ∧ zeroJ N D 0 = false) := ⟨rfl, by simp [zeroJ]; omega⟩
  obtain ⟨WA, hWA⟩ : ∃ W, (w1.alloc (.cells #[.slice a1 (n + 1) c1, .slice a2 (n + 1) c2] 132)) = W := ⟨_, rfl⟩
  have BA : Hid (Below w.heap.size w WA) := by
    show Below w.heap.size w WA
    rw [← hWA]
    have h1 := (C0.out.trans (hb1.mono C0.out.size))
    exact h1.alloc h1.size _
  have BB : Hid (Below w1.heap.size w1 WA) := by
    show Below w1.heap.size w1 WA
    rw [← hWA]
    exact (Below.refl _ _).alloc (Nat.le_refl _) _
  have KA : Hid (Blk WA w1.heap.size #[.slice a1 (n + 1) c1, .slice a2 (n + 1) c2] 132) := by
    show Blk _ _ _ _
    rw [← hWA]
    exact Blk.new w1 _ _
  have U1 := hid (hu1.call BB.out); have U2 := hid (hu2.call BB.out)
  obtain ⟨gc, hgc⟩ : ∃ g, w1.heap.size = g := ⟨_, rfl⟩
  rw [hgc] at KA
  clear hu1 hu2 hb1 BB
  go_wp2_with fail
  try rw [hWA]
  try rw [hgc]
  clear hWA hgc
  refine (HZ _).out.mono ?_; rintro e w2 ⟨⟨g, c, rfl, ht⟩, hb2⟩
  have T0 := hid ht; have B2 := hid hb2
  clear ht hb2
  go_wp2_with fail
  refine (HR _).out.mono ?_; rintro e w3 ⟨⟨v1, rfl, hv1, hf1⟩, hb3⟩
  obtain ⟨av, cv, rfl, -, -, -⟩ := hv1.openI
  obtain ⟨lv, hlv⟩ : ∃ l, (limbs 1).length = l := ⟨_, rfl⟩
  rw [hlv] at hv1 hf1 ⊢
  have B3 := hid (bnext B2.out hb3)
  have T1 := hid (T0.out.call hb3)
  have F1 : Hid (∀ g', (Value.slice av lv cv).ownBlock = some g' → WA.heap.size ≤ g' ∧ g' ≠ g) := fun g' hg => by
    have h1 : w2.heap.size ≤ g' := hf1 g' hg
    have h2 := T0.out.slot
    have h3 := B2.out.size
    exact ⟨by omega, by omega⟩
  have V1 := hid hv1
  have fr := T1.out.slot.2.2.2.2 0
  obtain ⟨x0, cx0, -, -⟩ := T1.out.at (i := 0) (by omega)
  have e0 : (0 : Int) < ((n + 1 : Nat) : Int) := by omega
  have e0' : (0 : Int) < (n : Int) + 1 := by omega
  have T2 : Hid (NTab WA.heap.size (w3.setCell ⟨g, 0, none⟩ (.slice av lv cv)) g (n + 1) c (opn N D 0)) := (T1.out.put 0 V1.out (.inr F1.out)).fn fun k hk => rfl
  have B4 := hid (B3.out.setCell (p := ⟨g, 0, none⟩) (by have := T1.out.slot.1; exact this) (.slice av lv cv))
  clear hlv hv1 hf1 hb3
  go_wp2_with fail
  have X0 : Hid (NRowX (w3.setCell ⟨g, 0, none⟩ (.slice av lv cv)) (.slice (some ⟨g, 0, none⟩) (n + 1) c) (n + 1) (opn N D 0) (.slice none 0 0)) := NRowX.of T2.out fun b hb => by simp [Value.ownBlock] at hb
  clear cx0 T0 T1 T2 fr e0 e0' F1 V1 B2 B3 HR HT HZ
  have SZ : Hid (gc < WA.heap.size) := KA.out.lt
  have CC := hid (KA.out.cell 0); have CC2 := hid (KA.out.cell 1)
  go_loopw [6, 7, 8] (fun s6 s7 s8 wr => ∃ (k G C : Nat), s6 = .slice (some ⟨G, 0, none⟩) (n + 1) C ∧ s8 = .int .i64 (k : Nat) ∧ k ≤ n + 1 ∧ Hid (NRowX wr s6 (n + 1) (opn N D k) s7) ∧ Hid (NSeg WA.heap.size wr s7 k (n + 1) (edn N D)) ∧ Hid (Below WA.heap.size WA wr)) (fun s6 s7 s8 wr => n + 1 - (intOf s8).toNat)
  case atStart => exact ⟨0, g, c, rfl, rfl, Nat.zero_le _, X0, NSeg.nil _ _ _ _, B4⟩
  case round =>
    clear X0 B4
    obtain ⟨k, G, C, rfl, rfl, hk, hX, hO, hB⟩ := hrel
    by_cases hlt : k ≤ n
    · have q0 : decide ((k : Int) ≤ (n : Int)) = true := by simp; omega
      have d0 : decide (k ≤ n) = true := by simp; omega
      have wi : IntKind.i64.wrap ((k : Int) + 1) = ((k + 1 : Nat) : Int) := by have := HN.out; rw [IntWalk.i64_in _ ⟨by omega, by omega⟩]; omega
      have cc : wr.cell? ⟨gc, 0, none⟩ = some (.slice a1 (n + 1) c1) := (hB.out.cell (p := ⟨gc, 0, none⟩) SZ.out).trans CC.out
      have cc2 : wr.cell? ⟨gc, 1, none⟩ = some (.slice a2 (n + 1) c2) := (hB.out.cell (p := ⟨gc, 1, none⟩) SZ.out).trans CC2.out
      have U3 := hid (U2.out.call hB.out)
      have XR := hid hX.out.row
      have KL := hid hlt
      clear hk hlt
      go_wp2_with fail
      refine (er_after _ _ _ n (opn N D k) (zeroJ N D) (by have := HN.out; omega) XR.out U3.out Z1.out.2 (fun s hs => ⟨two_pow_digits (edn_bd HN.out k s hs) (by have := HN.out; have := KL.out; omega), two_pow_digits (opn_bd HN.out k s hs) (by have := HN.out; have := KL.out; omega)⟩)).mono ?_; rintro e wz ⟨⟨gz, cz, rfl, htz⟩, hbz⟩
      have BZ := hid hbz; have TZ := hid htz
      clear hbz htz
      obtain ⟨vs, HO0, HO1⟩ := id hO.out
      have HOO := hid HO0; have HO9 := hid HO1
      obtain ⟨ar, cr, rfl⟩ := owns_ex HO0
      clear HO0 HO1
      have hk9 := KL.out
      have hn9 := HN.out
      go_wp2_with (at_builtin; refine wpList_append_own_at _ rfl _ _ 94 rfl WA.heap.size 83 i0 (.slice none 0 0) 1 24 Tryz.underlying94 hi hz0 hz1 hz2 rfl (by decide) _ k vs rfl ((HOO.out.kept (below_grown BZ.out none) (by cases ar <;> simp [Value.ownBlock])).alloc _) ⟨wz.heap.size, 0, none⟩ 1 1 [.slice (some ⟨gz, 0, none⟩) (n + 1) cz] rfl rfl (cell_one_new wz (.slice (some ⟨gz, 0, none⟩) (n + 1) cz) 83) (by simp [Value.oneCell']) (by unfold maxLen; omega) (by omega) (by have := hB.out.size; have := BZ.out.size; simp; omega) ?_; intro v' w5 hown hgrow _ hat; have HO5 := hid hown; have HG5 := hid hgrow; have HA5 := hid hat; clear hown hgrow hat; have B5 := hid (own_below HOO.out hB.out BZ.out HG5.out); have cc5 : w5.cell? ⟨gc, 0, none⟩ = some (.slice a1 (n + 1) c1) := (B5.out.cell (p := ⟨gc, 0, none⟩) SZ.out).trans CC.out)
      have N5 := hid (NSeg.next (f := edn N D) (Nat.succ_pos n) HOO.out HO9.out BZ.out TZ.out HO5.out HG5.out HA5.out)
      have X5 := hid (((hX.out.call BZ.out).call ((Below.refl _ _).alloc (Nat.le_refl _) _)).grow (Nat.succ_pos n) HG5.out HA5.out)
      have XR5 := hid X5.out.row
      have U5 := hid (U1.out.call B5.out)
      have OL5 : Hid (∀ b, v'.ownBlock = some b → b < w5.heap.size) := fun b hb => (HO5.out.lt b hb).2
      clear HO5 HG5 HA5 hk9 hn9 cc cc2
      refine (er_after _ _ _ n (opn N D k) (oneJ N D) (by have := HN.out; omega) XR5.out U5.out Z1.out.1 (fun s hs => ⟨two_pow_digits (opn_bd HN.out (k + 1) s hs) (by have := HN.out; have := KL.out; omega), two_pow_digits (opn_bd HN.out k s hs) (by have := HN.out; have := KL.out; omega)⟩)).mono ?_; rintro e w6 ⟨⟨g6, c6, rfl, ht6⟩, hb6⟩
      have X6 : Hid (NRowX w6 (.slice (some ⟨g6, 0, none⟩) (n + 1) c6) (n + 1) (opn N D (k + 1)) v') := NRowX.of ht6 OL5.out
      have N6 := hid (N5.out.call hb6)
      have B6 := hid (bnext B5.out hb6)
      clear ht6 hb6
      go_wp2_with fail
      go_roundw
      case rel => exact ⟨k + 1, _, _, rfl, by go_num, by have := KL.out; omega, X6, N6, B6⟩
      case measure => simp [intOf] <;> (have := KL.out; omega)
    · have e1 : k = n + 1 := by omega
      subst e1
      have q0 : decide (((n + 1 : Nat) : Int) ≤ (n : Int)) = false := by simp; omega
      have d0 : decide ((n : Int) + 1 ≤ (n : Int)) = false := by simp; omega
      have BF := hid (BA.out.trans (hB.out.mono BA.out.size))
      have NF := hid (hO.out.mono BA.out.size)
      clear hk hlt
      go_wp2_with fail
      go_ret
      exact ⟨⟨_, rfl, NF.out⟩, BF.out⟩
end Go.Proofs.YtccalhlhdiapiaaGreatDoor
namespace Go.Proofs.YtccalhlhdiapiaaGreatDoor
open Go.RowKit Go.Shelf
open Go.Lib (decDigits nDigits)
set_option linter.unusedVariables false
set_option linter.unusedSimpArgs false
theorem r3_smallF (w : World) (n : Nat) (h : n ≤ 9223372036854775807) : Calls Tryz.prog 120 #[.int .i64 n] w fun e w' => RetFr w.heap.size .i64 n e w' ∧ Below w.heap.size w w' := by
  have hd := hid (show nDigits n ≤ 9000 from Nat.le_trans (nDigits_le (k := 19) (by omega) (by omega)) (by omega))
  go_enter Tryz.func120, Tryz.ntmps120
  go_wp2_with fail
  refine (r2_Int _ n h).mono ?_; rintro e w1 ⟨rfl, rfl⟩
  go_wp2_with fail
  refine (r1_Read_numF _ n hd.out).mono ?_; rintro e w1 ⟨⟨v, rfl, hv, hf⟩, hb⟩
  go_wp2_with fail
  go_ret
  exact ⟨⟨_, rfl, hv, hf⟩, hb⟩
set_option maxRecDepth 100000 in
set_option maxHeartbeats 1000000 in
theorem r3_TwoF (w : World) (n : Nat) (hn : n ≤ 100000) : Calls Tryz.prog 73 #[.int .i64 n] w fun e w' => RetFr w.heap.size .i64 (2 ^ n) e w' ∧ Below w.heap.size w w' := by
  go_enter Tryz.func73, Tryz.ntmps73
  go_wp2_with fail
  refine (r3_smallF _ 1 (by omega)).mono ?_; rintro e w1 ⟨⟨v, rfl, hv, hf⟩, hb⟩
  have V := hid hv; have B := hid hb; have F := hid hf
  clear hv hb hf
  go_wp2_with fail
  go_loopw [0, 3] (fun nn o wr => ∃ j : Nat, nn = .int .i64 j ∧ j ≤ n ∧ Hid (IsN .i64 wr o (2 ^ (n - j))) ∧ Hid (∀ g, o.ownBlock = some g → w.heap.size ≤ g) ∧ Hid (Below w.heap.size w wr)) (fun nn o wr => (intOf nn).toNat)
  case atStart => exact ⟨n, rfl, Nat.le_refl _, by rw [Nat.sub_self, Nat.pow_zero]; exact V, F, B⟩
  case round =>
    obtain ⟨j, rfl, hj, hO, hF, hB⟩ := hrel
    by_cases h0 : 0 < j
    · have q0 : decide ((0 : Int) < (j : Int)) = true := by simp; omega
      have ll : Hid ((limbs (2 ^ (n - j))).length ≤ 1000000) := Nat.le_trans (limbs_two (k := n - j + 1) (Nat.pow_lt_pow_right (by omega) (by omega))) (by omega)
      have hs : Hid (2 ^ (n - j) + 2 ^ (n - j) = 2 ^ (n - (j - 1))) := by
        show _ = _
        rw [show n - (j - 1) = n - j + 1 by omega, Nat.pow_succ]; omega
      go_wp2_with fail
      refine (r1_PlusF _ _ _ _ _ hO.out hO.out ll.out ll.out).mono ?_; rintro e w2 ⟨⟨v2, rfl, hv2, hf2⟩, hb2⟩
      have V2 := hid hv2; have B2 := hid (bnext hB.out hb2)
      have F2 : Hid (∀ g, v2.ownBlock = some g → w.heap.size ≤ g) := fun g hg => Nat.le_trans hB.out.size (hf2 g hg)
      clear hv2 hb2 hf2
      go_wp2_with fail
      go_roundw
      case rel => exact ⟨j - 1, by go_num, by omega, V2.out.cast hs.out, F2, B2⟩
      case measure => simp [intOf] <;> omega
    · obtain rfl : j = 0 := by omega
      go_wp2_with fail
      go_ret
      exact ⟨⟨_, rfl, hO.out, hF.out⟩, hB.out⟩
end Go.Proofs.YtccalhlhdiapiaaGreatDoor
namespace Go.Proofs.YtccalhlhdiapiaaGreatDoor
open Go.RowKit
set_option linter.unusedVariables false
theorem r2_small (w : World) (n : Nat) (h : n ≤ 9223372036854775807) : Calls Tryz.prog 41 #[.int .i64 n] w fun e w' => e = .returned (numV n) ∧ w = w' := by
  go_enter Tryz.func41, Tryz.ntmps41
  go_wp2_with fail
  refine (r1_FromInt _ n h).mono ?_; rintro e w1 ⟨rfl, rfl⟩
  go_wp2_with fail
  go_ret
  exact ⟨rfl, rfl⟩
end Go.Proofs.YtccalhlhdiapiaaGreatDoor
namespace Go.Proofs.YtccalhlhdiapiaaGreatDoor
open Go.RowKit
open Go.Lib (decDigits nDigits)
set_option linter.unusedVariables false
set_option linter.unusedSimpArgs false
theorem zB_neg (m : Nat) : (⟨#[45]⟩ : ByteArray) ++ numB (m + 1) = zB (-((m : Int) + 1)) := by
  apply ba_ext
  rw [ByteArray.data_append, Array.toList_append, numB_list, zB_list, show -((m : Int) + 1) = -((m + 1 : Nat) : Int) by omega, Lib.itoa_neg _ (by omega)]
  rfl
theorem ndig_i64 {n : Nat} (h : n ≤ 9223372036854775807) : nDigits n ≤ 9000 := Nat.le_trans (nDigits_le (k := 19) (by omega) (by omega)) (by omega)
theorem lim_i64 {n : Nat} (h : n ≤ 9223372036854775807) : (limbs n).length ≤ 1000000 := Nat.le_trans (limbs_digits (K := 3) (Nat.le_trans (nDigits_le (k := 19) (by omega) (by omega)) (by omega))) (by omega)
set_option maxRecDepth 100000 in
set_option maxHeartbeats 1000000 in
theorem r2_IntNeg (w : World) (m : Nat) (h : m ≤ 1000000000) : Calls Tryz.prog 21 #[.int .i64 (-((m : Int) + 1))] w fun e w' => e = .returned (.string (zB (-((m : Int) + 1)))) ∧ Below w.heap.size w w' := by
  have q0 : decide ((0 : Int) ≤ -((m : Int) + 1)) = false := by simp <;> omega
  have q1 : IntKind.i64.wrap (-((m : Int) + 1) + 1) = -(m : Int) := by rw [IntWalk.i64_in _ ⟨by omega, by omega⟩]; omega
  have q2 : IntKind.i64.wrap (-(-(m : Int))) = (m : Int) := by rw [IntWalk.i64_in _ ⟨by omega, by omega⟩]; omega
  have q3 : IntKind.i64.wrap (-(-((m : Int) + 1) + 1)) = (m : Int) := by rw [IntWalk.i64_in _ ⟨by omega, by omega⟩]; omega
  have q4 : IntKind.i64.wrap (m : Int) = (m : Int) := by rw [IntWalk.i64_in _ ⟨by omega, by omega⟩]
  have hz := zB_neg m
  obtain ⟨Z, hZ⟩ : ∃ Z, zB (-((m : Int) + 1)) = Z := ⟨_, rfl⟩
  rw [hZ] at hz ⊢
  have HS := fun V => hid (r2_small V m (by omega))
  have HR := fun V => hid (r1_Read_num V m (ndig_i64 (by omega)))
  have HO := fun V => hid (r2_one V)
  have HP := fun V v u hv hu => hid (r1_Plus V v u m 1 hv hu (lim_i64 (by omega)) (lim_i64 (by omega)))
  have HW := fun V v hv => hid (r1_Write V v (m + 1) hv (lim_i64 (by omega)))
  obtain ⟨M, hM⟩ : ∃ M, numB m = M := ⟨_, rfl⟩
  have hsz := numB_size (m + 1)
  have hnd := ndig_i64 (n := m + 1) (by omega)
  obtain ⟨M1, hM1⟩ : ∃ M, numB (m + 1) = M := ⟨_, rfl⟩
  rw [hM1] at hsz
  have hcat : ¬ 9223372036854775807 < 1 + M1.size := by omega
  simp only [numV_eq] at HS HW
  rw [hM] at HS HR
  rw [hM1] at HW hz
  clear hM hM1 hZ h hsz hnd
  go_enter Tryz.func21, Tryz.ntmps21
  go_wp2_with fail
  refine (HS _).out.mono ?_; rintro e w1 ⟨rfl, rfl⟩
  go_wp2_with fail
  refine (HR _).out.mono ?_; rintro e w2 ⟨⟨v2, rfl, h2⟩, hb2⟩
  have B2 := hid hb2; have V2 := hid h2; clear hb2 h2
  go_wp2_with fail
  refine (HO _).out.mono ?_; rintro e w3 ⟨⟨v3, rfl, h3⟩, hb3⟩
  have B3 := hid (bnext B2.out hb3); have V3 := hid (V2.out.call hb3); have U3 := hid h3; clear hb3 h3
  go_wp2_with fail
  refine (HP _ _ _ V3.out U3.out).out.mono ?_; rintro e w4 ⟨⟨v4, rfl, h4⟩, hb4⟩
  have B4 := hid (bnext B3.out hb4); have V4 := hid h4; clear hb4 h4
  go_wp2_with fail
  refine (HW _ _ V4.out).out.mono ?_; rintro e w5 ⟨rfl, hb5⟩
  have B5 := hid (bnext B4.out hb5); clear hb5
  go_wp2_with fail
  go_ret
  exact ⟨rfl, B5.out⟩
theorem r2_IntZ (w : World) (k : Int) (h1 : -1000000000 ≤ k) (h2 : k ≤ 1000000000) : Calls Tryz.prog 21 #[.int .i64 k] w fun e w' => e = .returned (.string (zB k)) ∧ Below w.heap.size w w' := by
  by_cases hk : 0 ≤ k
  · obtain ⟨n, rfl⟩ : ∃ n : Nat, k = (n : Nat) := ⟨k.toNat, by omega⟩
    refine (r2_Int w n (by omega)).mono ?_
    rintro e w' ⟨rfl, rfl⟩
    exact ⟨by rw [zB_nat], Below.refl _ _⟩
  · obtain ⟨m, rfl⟩ : ∃ m : Nat, k = -((m : Int) + 1) := ⟨(-k - 1).toNat, by omega⟩
    exact r2_IntNeg w m (by omega)
end Go.Proofs.YtccalhlhdiapiaaGreatDoor
namespace Go.Proofs.YtccalhlhdiapiaaGreatDoor
open Go.RowKit Go.Shelf
open Go.Lib (decDigits nDigits)
set_option linter.unusedVariables false
set_option linter.unusedSimpArgs false
def cF (N D n : Nat) (two : Bool) (i j : Nat) : Nat := if two = true then c3 N D n i 0 0 ((j : Int) - n) else o3 N D n i j
theorem cF_zero (N D n : Nat) (two : Bool) (j : Nat) : cF N D n two 0 j = 0 := by
  unfold cF
  split
  · rw [c3_zero]
  · exact o3_zero N D n j
theorem cF_end {N D n : Nat} (h : N < D) {two : Bool} {j : Nat} (hj : j ≤ 2 * n) : cF N D n two (n + 1) j = gV N D two n ((j : Int) - n) := by
  unfold cF
  cases two
  · rw [if_neg (by simp)]; exact o3_end h hj
  · rw [if_pos rfl]; exact c3_end h n _
theorem pw32 {x n : Nat} (h : x ≤ 2 ^ n) (hn : n ≤ 32) : (limbs x).length ≤ 1000000 := num_limbs (two_pow_digits h (by omega))
set_option maxRecDepth 100000 in
set_option maxHeartbeats 8000000 in
theorem er_law_ok (w : World) (a : ByteArray) (n : Nat) (two : Bool) (ha : a.size ≤ 100000) (he : gPE a = 0) (hn : n ≤ 32) (h0 : a ≠ ⟨#[48]⟩) :
    Calls Tryz.prog 34 #[.string a, .int .i64 (n : Nat), .bool two] w fun e w' => (∃ u, e = .returned (.tuple #[u, .int .i64 0]) ∧ MRow w' u (sortM (glP (gV (bN (cW a)) (bN (qD a)) two n) (2 ^ n) n (gL (bN (cW a)) (bN (qD a)) two n)))) ∧ Below w.heap.size w w' := by
  have HA := hid (r6_Ratio w a (by omega))
  rw [he] at HA
  obtain ⟨hq, hm⟩ := ratio_q he
  have HR := fun V => hid (r2_Read0 V a (by omega))
  rw [hq, iD_plain hm, hm] at HR
  obtain ⟨N, hN⟩ : ∃ N, bN (cW a) = N := ⟨_, rfl⟩
  obtain ⟨D, hD⟩ : ∃ D, bN (qD a) = D := ⟨_, rfl⟩
  have hND := (gPE_ok he).2
  have hpos := ratio_pos he h0
  have hdg : ∀ j, j ≤ n → nDigits (N * 2 ^ j) ≤ 4000 := fun j hj => by rw [← hN]; exact ratio_dig he (by omega)
  rw [hN] at HR hND hpos
  rw [hD] at HR hND
  rw [hN, hD]
  have HT := fun V m v1 v2 k1 k2 => hid (er_ended V m v1 v2 N D n hn hpos hND k1 k2 hdg)
  have HND := hid hND; have HN := hid hn
  have n0 : (decide ((n : Int) < 0)) = false := by simp
  have n1 : (decide ((32 : Int) < (n : Int))) = false := by simp; omega
  have ze : (a.toList == [48]) = false := ne_lit h0
  clear ha he hq hm hN hD hND hpos hdg h0
  go_enter Tryz.func34, Tryz.ntmps34
  go_wp2_with fail
  refine HA.out.mono ?_; rintro e w1 ⟨rfl, hb1⟩
  have B1 := hid hb1; clear hb1 HA
  go_wp2_with fail
  refine (HR _).out.mono ?_; rintro e w2 ⟨⟨v, rfl, hv, -⟩, hb2⟩
  obtain ⟨vN, vD, rfl, hvN, hvD⟩ := hv rfl
  obtain ⟨aN, cN, rfl, -, -, -⟩ := hvN.openI
  obtain ⟨aD, cD, rfl, -, -, -⟩ := hvD.openI
  have B2 := hid (bnext B1.out hb2)
  obtain ⟨lN, hlN⟩ : ∃ l, (limbs N).length = l := ⟨_, rfl⟩
  obtain ⟨lD, hlD⟩ : ∃ l, (limbs D).length = l := ⟨_, rfl⟩
  rw [hlN] at hvN ⊢
  rw [hlD] at hvD ⊢
  have C2 := hid ((Below.refl w2.heap.size w2).alloc (Nat.le_refl _) (.cells #[.bool false, .slice aN lN cN, .slice aD lD cD] 68))
  have VN := hid (hvN.call C2.out); have VD := hid (hvD.call C2.out)
  have B3 := hid (bnext B2.out C2.out)
  clear hv hb2 hvN hvD hlN hlD HR
  go_wp2_with fail
  refine (HT _ _ _ _ VN.out VD.out).out.mono ?_; rintro e WL ⟨⟨vl, rfl, hl⟩, hbl⟩
  obtain ⟨gs, cs, rfl, s1, s2, s3, s4⟩ := hl.open
  have SL : Hid (gs < WL.heap.size) := s3
  have SE := hid s4
  have BL := hid (bnext B3.out hbl)
  clear hl hbl s3 s4 HT VN VD
  have HZ := fun V => hid (er_zeros V (2 * n) (by have := HN.out; omega))
  obtain ⟨M, hM⟩ : ∃ M, 2 * n = M := ⟨_, rfl⟩
  rw [hM] at HZ
  have w2n : IntKind.i64.wrap (2 * (n : Int)) = (M : Int) := by have := HN.out; rw [IntWalk.i64_in _ ⟨by omega, by omega⟩]; omega
  have HM := hid hM
  clear hM hn
  go_wp2_with fail
  refine (HZ _).out.mono ?_; rintro e w4 ⟨⟨g, c, rfl, ht⟩, hb4⟩
  have T4 : Hid (NTab WL.heap.size w4 g (M + 1) c (cF N D n two 0)) := ht.fn fun j _ => (cF_zero N D n two j).symm
  have B4 := hid hb4
  clear ht hb4 HZ
  go_wp2_with fail
  refine (r3_TwoF _ n (by have := HN.out; omega)).mono ?_; rintro e w5 ⟨⟨vt, rfl, hvt, hft⟩, hb5⟩
  have V5 := hid hvt
  have F5 : Hid (vt.ownBlock ≠ some g) := fun e => by
    have h1 := hft g e
    have h2 := T4.out.slot.2.1
    omega
  have T5 := hid (T4.out.call hb5)
  have B5 := hid (bnext B4.out hb5)
  have GL : Hid (WL.heap.size ≤ g) := T4.out.slot.1
  clear hvt hft hb5 T4 B4 w2n
  go_wp2_with fail
  have f0 : (0 : Int) ≤ (n : Int) := by omega
  have f1 : (n : Int) < ((n + 1 : Nat) : Int) := by omega
  have f1' : (n : Int) < (n : Int) + 1 := by omega
  have HDW : Hid (∀ k m, m ≤ n → nDigits (cvo (edn N D k) pw2 m) ≤ 4000) := fun k m hm => by
    rw [← cw_oneP HND.out]
    exact two_pow_digits (cw_le _ _) (by have := HN.out; omega)
  go_loopw [14, 15, 16, 17] (fun s14 s15 s16 s17 wr => ∃ i : Nat, s14 = .int .i64 (i : Nat) ∧ i ≤ n + 1 ∧ Hid (NTab WL.heap.size wr g (M + 1) c (cF N D n two i)) ∧ Hid (IsN .i64 wr vt (2 ^ n)) ∧ Hid (Below WL.heap.size WL wr)) (fun s14 s15 s16 s17 wr => n + 1 - (intOf s14).toNat)
  case atStart => exact ⟨0, rfl, Nat.zero_le _, T5, V5, B5⟩
  case round =>
    clear T5 V5 B5
    obtain ⟨i, rfl, hi, hT, hV, hB⟩ := hrel
    by_cases hlt : i ≤ n
    · have q0 : decide ((i : Int) ≤ (n : Int)) = true := by simp; omega
      have d0 : decide (i ≤ n) = true := by simp; omega
      have e0 : (0 : Int) ≤ (i : Int) := by omega
      have e1 : (i : Int) < ((n + 1 : Nat) : Int) := by omega
      have e1' : (i : Int) < (n : Int) + 1 := by omega
      have wi : IntKind.i64.wrap ((i : Int) + 1) = ((i + 1 : Nat) : Int) := by have := HN.out; rw [IntWalk.i64_in _ ⟨by omega, by omega⟩]; omega
      have IL := hid hlt
      obtain ⟨x, hx1, hx2⟩ := SE.out i hlt
      have cx : wr.cell? ⟨gs, i, none⟩ = some x := (hB.out.cell (p := ⟨gs, i, none⟩) SL.out).trans hx1
      have XR := hid (hx2.call hB.out)
      clear hx1 hx2 hi hlt
      go_wp2_with fail
      refine (er_within _ _ n (edn N D i) (by have := HN.out; omega) XR.out (fun m hm => HDW.out i m hm)).mono ?_; rintro e w6 ⟨⟨gd, cd, rfl, htd⟩, hb6⟩
      have TD := hid htd
      have T6 := hid (hT.out.call hb6)
      have V6 := hid (hV.out.call hb6)
      have B6 := hid (hB.out.trans (hb6.mono hB.out.size))
      have GD : Hid (g < wr.heap.size) := hT.out.slot.2.1
      obtain ⟨BD, hBD⟩ : ∃ b, wr.heap.size = b := ⟨_, rfl⟩
      rw [hBD] at TD GD
      clear htd hb6 hT hV hB XR cx hBD
      cases two
      · obtain ⟨y, cy, hy, hy2⟩ := TD.out.at (i := n) (by omega)
        obtain ⟨ay, cy9, rfl, -, -, -⟩ := hy.openI
        obtain ⟨ly, hly⟩ : ∃ l, (limbs (cvo (edn N D i) pw2 n)).length = l := ⟨_, rfl⟩
        rw [hly] at hy hy2 cy
        obtain ⟨J, hJ⟩ : ∃ J, n + i = J := ⟨_, rfl⟩
        have HJ : Hid (n + i = J ∧ J ≤ M) := ⟨hJ, by have := HM.out; have := IL.out; omega⟩
        have ws : IntKind.i64.wrap ((n : Int) + (i : Int)) = (J : Int) := by have := HN.out; have := IL.out; rw [IntWalk.i64_in _ ⟨by omega, by omega⟩]; omega
        have j0 : (0 : Int) ≤ (J : Int) := by omega
        have j1 : (J : Int) < ((M + 1 : Nat) : Int) := by have := HJ.out; omega
        have j1' : (J : Int) < (M : Int) + 1 := by have := HJ.out; omega
        have fr := T6.out.slot.2.2.2.2 J
        obtain ⟨z, cz, -, -⟩ := T6.out.at (i := J) (by have := HJ.out; omega)
        have Z1 : Hid (cvo (edn N D i) pw2 n = 0 ∨ ∀ g', (Value.slice ay ly cy9).ownBlock = some g' → WL.heap.size ≤ g' ∧ g' ≠ g) := hy2.imp id fun k g' hg' => by
          have h1 := (k g' hg').1
          have h2 := GD.out
          have h3 := GL.out
          exact ⟨by omega, by omega⟩
        have T7 : Hid (NTab WL.heap.size (w6.setCell ⟨g, J, none⟩ (.slice ay ly cy9)) g (M + 1) c (cF N D n false (i + 1))) := (T6.out.put J hy Z1.out).fn fun j hj => by
          have e : cF N D n false (i + 1) j = o3 N D n (i + 1) j := rfl
          have e' : cF N D n false i j = o3 N D n i j := rfl
          rw [e, e', o3_succ HND.out]
          by_cases hc : j = J
          · rw [if_pos hc, if_pos (by have := HJ.out; omega)]
          · rw [if_neg hc, if_neg (by have := HJ.out; omega)]
        have V7 := hid (isN_other V6.out (a := ⟨g, J, none⟩) (.inr F5.out) (.slice ay ly cy9))
        have B7 := hid (B6.out.setCell (p := ⟨g, J, none⟩) GL.out (.slice ay ly cy9))
        clear hy hy2 hly hJ
        go_wp2_with fail
        try simp only [Only]
        go_roundw
        case rel => exact ⟨i + 1, by go_num, by have := IL.out; omega, T7, V7, B7⟩
        case measure => simp [intOf] <;> (have := IL.out; omega)
      · go_wp2_with fail
        have T7 : Hid (NTab WL.heap.size w6 g (M + 1) c (fun j => c3 N D n i 0 0 ((j : Int) - n))) := T6.out
        go_loopw [16, 17] (fun s16 s17 wr2 => ∃ k : Nat, s16 = .int .i64 (k : Nat) ∧ k ≤ n + 1 ∧ Hid (NTab WL.heap.size wr2 g (M + 1) c (fun j => c3 N D n i k 0 ((j : Int) - n))) ∧ Hid (NTab BD wr2 gd (n + 1) cd (cvo (edn N D i) pw2)) ∧ Hid (IsN .i64 wr2 vt (2 ^ n)) ∧ Hid (Below WL.heap.size WL wr2)) (fun s16 s17 wr2 => n + 1 - (intOf s16).toNat)
        case atStart => exact ⟨0, rfl, Nat.zero_le _, T7, TD, V6, B6⟩
        case round =>
          clear T6 T7 TD V6 B6
          obtain ⟨k, rfl, hk, hT, hG, hV, hB⟩ := hrel
          by_cases hlt : k ≤ n
          · have q1 : decide ((k : Int) ≤ (n : Int)) = true := by simp; omega
            have d1 : decide (k ≤ n) = true := by simp; omega
            have wk : IntKind.i64.wrap ((k : Int) + 1) = ((k + 1 : Nat) : Int) := by have := HN.out; rw [IntWalk.i64_in _ ⟨by omega, by omega⟩]; omega
            have KL := hid hlt
            clear hk hlt
            go_wp2_with fail
            go_loopw [17] (fun s17 wr3 => ∃ s : Nat, s17 = .int .i64 (s : Nat) ∧ s ≤ n + 1 ∧ Hid (NTab WL.heap.size wr3 g (M + 1) c (fun j => c3 N D n i k s ((j : Int) - n))) ∧ Hid (NTab BD wr3 gd (n + 1) cd (cvo (edn N D i) pw2)) ∧ Hid (IsN .i64 wr3 vt (2 ^ n)) ∧ Hid (Below WL.heap.size WL wr3)) (fun s17 wr3 => n + 1 - (intOf s17).toNat)
            case atStart => exact ⟨0, rfl, Nat.zero_le _, hT, hG, hV, hB⟩
            case round =>
              clear hT hG hV hB
              obtain ⟨s, rfl, hs, hT, hG, hV, hB⟩ := hrel
              by_cases hlt : s ≤ n
              · have q2 : decide ((s : Int) ≤ (n : Int)) = true := by simp; omega
                have d2 : decide (s ≤ n) = true := by simp; omega
                have wsx : IntKind.i64.wrap ((s : Int) + 1) = ((s + 1 : Nat) : Int) := by have := HN.out; rw [IntWalk.i64_in _ ⟨by omega, by omega⟩]; omega
                have SLE := hid hlt
                obtain ⟨T, hTT⟩ : ∃ T, n + k = T := ⟨_, rfl⟩
                obtain ⟨J, hJ⟩ : ∃ J, T - i = J := ⟨_, rfl⟩
                obtain ⟨U, hU⟩ : ∃ U, n - s = U := ⟨_, rfl⟩
                have HJ : Hid (n + k = T ∧ i ≤ T ∧ T - i = J ∧ J ≤ M ∧ (k : Int) - (i : Int) = (J : Int) - (n : Int)) := ⟨hTT, by have := IL.out; omega, hJ, by have := HM.out; have := IL.out; have := KL.out; omega, by have := IL.out; omega⟩
                have HU : Hid (n - s = U ∧ U ≤ n) := ⟨hU, by omega⟩
                have w1 : IntKind.i64.wrap ((n : Int) + (k : Int)) = (T : Int) := by have := HN.out; have := KL.out; rw [IntWalk.i64_in _ ⟨by omega, by omega⟩]; omega
                have w2' : IntKind.i64.wrap ((T : Int) - (i : Int)) = (J : Int) := by have := HN.out; have := KL.out; have := IL.out; rw [IntWalk.i64_in _ ⟨by omega, by omega⟩]; omega
                have w3 : IntKind.i64.wrap ((n : Int) - (s : Int)) = (U : Int) := by have := HN.out; rw [IntWalk.i64_in _ ⟨by omega, by omega⟩]; omega
                have j0 : (0 : Int) ≤ (J : Int) := by omega
                have j1 : (J : Int) < ((M + 1 : Nat) : Int) := by have := HJ.out; omega
                have j1' : (J : Int) < (M : Int) + 1 := by have := HJ.out; omega
                have u0 : (0 : Int) ≤ (U : Int) := by omega
                have u1 : (U : Int) < ((n + 1 : Nat) : Int) := by have := HU.out; omega
                have u1' : (U : Int) < (n : Int) + 1 := by have := HU.out; omega
                have k0 : (0 : Int) ≤ (k : Int) := by omega
                have k1 : (k : Int) < ((n + 1 : Nat) : Int) := by have := KL.out; omega
                have k1' : (k : Int) < (n : Int) + 1 := by have := KL.out; omega
                have s0 : (0 : Int) ≤ (s : Int) := by omega
                have s1 : (s : Int) < ((n + 1 : Nat) : Int) := by omega
                have s1' : (s : Int) < (n : Int) + 1 := by omega
                obtain ⟨x1, cx1, hx1, -⟩ := hT.out.at (i := J) (by have := HJ.out; omega)
                obtain ⟨tk, htk, hrk⟩ := SE.out k KL.out
                obtain ⟨at', ct', rfl, p1, p2⟩ := hrk.openA
                obtain ⟨gt, ot, x2, rfl, hgt, hx2c, hx2⟩ := hrk.el (i := s) (by omega)
                obtain ⟨x3, cx3, hx3, -⟩ := hG.out.at (i := U) (by have := HU.out; omega)
                have ck : wr.cell? ⟨gs, k, none⟩ = some (.slice (some ⟨gt, ot, none⟩) (n + 1) ct') := (hB.out.cell (p := ⟨gs, k, none⟩) SL.out).trans htk
                have cx2 : wr.cell? ⟨gt, ot + s, none⟩ = some x2 := (hB.out.cell (p := ⟨gt, ot + s, none⟩) hgt).trans hx2c
                have X1 := hid hx1; have X2 := hid (hx2.call hB.out); have X3 := hid hx3
                have EY : cvo (edn N D i) pw2 U = cw (n - s) (oneP N D i) := by rw [← cw_oneP HND.out, HU.out.1]
                have STP : Hid (c3 N D n i k s ((J : Int) - n) + edn N D k s * cvo (edn N D i) pw2 U = c3 N D n i k (s + 1) ((J : Int) - n)) := by
                  show _ = _
                  rw [c3_s, EY]
                  unfold addM
                  rw [if_pos HJ.out.2.2.2.2.symm]
                have LE : Hid (c3 N D n i k (s + 1) ((J : Int) - n) ≤ 2 ^ n) := Nat.le_trans (c3_le HND.out IL.out KL.out (by have := SLE.out; omega) _) (gV_le HND.out true n _)
                have L1 : Hid ((limbs (c3 N D n i k s ((J : Int) - n))).length ≤ 1000000) := pw32 (Nat.le_trans (by rw [← STP.out]; omega) LE.out) HN.out
                have L2 : Hid ((limbs (edn N D k s)).length ≤ 1000000) := num_limbs (Nat.le_trans (nDigits_mono (f_le_cvo _ _)) (HDW.out k s hlt))
                have L3 : Hid ((limbs (cvo (edn N D i) pw2 U)).length ≤ 1000000) := num_limbs (HDW.out i U HU.out.2)
                have L4 : Hid ((limbs (edn N D k s * cvo (edn N D i) pw2 U)).length ≤ 1000000) := pw32 (Nat.le_trans (by rw [← STP.out]; omega) LE.out) HN.out
                clear hTT hJ hU hx1 hx2 hx3 hrk htk hx2c hgt hs hlt EY
                go_wp2_with fail
                refine held_lasts 29 2 [0, 1, 2, 3, 4, 5, 6, 7, 8, 9, 10, 11, 12, 13, 14, 15, 16, 17, 18, 19, 20, 21, 22, 23, 24, 25, 26] 2 (fun W' => W'.cell? ⟨g, J, none⟩ = some x1 ∧ W'.cell? ⟨gs, k, none⟩ = some (.slice (some ⟨gt, ot, none⟩) (n + 1) ct') ∧ W'.cell? ⟨gt, ot + s, none⟩ = some x2 ∧ W'.cell? ⟨gd, U, none⟩ = some x3) (by kernel_rfl) rfl (by kernel_rfl) (by kernel_rfl) (by kernel_rfl) (by kernel_rfl) ⟨cx1, ck, cx2, cx3⟩ ?_
                iterate 27
                  refine ⟨_, rfl, ?_⟩
                  apply Exists.intro
                  refine ⟨.inl ⟨by rfl, ?_⟩, ?_⟩
                  · (intro W' hW'; obtain ⟨r1, r2, r3, r4⟩ := hW'; go_simp; try (with_reducible rfl))
                  (dsimp only [Act.put]; try simp only [List.setIfInBounds_toArray, List.set_cons_zero, List.set_cons_succ])
                refine held_one (i := 27) (by kernel_rfl) (by rfl) (by rfl) ?_
                go_wp2_with fail
                refine (r1_Times _ _ _ _ _ (X2.out.call (Below.refl _ _).drew) (X3.out.call (Below.refl _ _).drew) L2.out L3.out).mono ?_; rintro e wa ⟨⟨vp, rfl, hvp⟩, hba⟩
                have A1 := hid (show Below wr.heap.size wr wa from (Below.refl _ _).drew.trans hba); have VP := hid hvp
                have m1 := (A1.out.cell (cell_lt cx1)).trans cx1
                have m2 := (A1.out.cell (cell_lt ck)).trans ck
                have m3 := (A1.out.cell (cell_lt cx2)).trans cx2
                have m4 := (A1.out.cell (cell_lt cx3)).trans cx3
                clear hba hvp cx1 ck cx2 cx3
                go_wp2_with fail
                refine ⟨⟨m1, m2, m3, m4⟩, ?_⟩
                refine held_one (i := 28) (by kernel_rfl) (by rfl) (by rfl) ?_
                go_wp2_with fail
                refine (r1_PlusF _ _ _ _ _ (X1.out.call A1.out) VP.out L1.out L4.out).mono ?_; rintro e wb ⟨⟨vs, rfl, hvs, hfs⟩, hbb⟩
                have hvs' := hvs.cast STP.out
                obtain ⟨as1, cs1, rfl, -, -, -⟩ := hvs'.openI
                obtain ⟨ls1, hls⟩ : ∃ l, (limbs (c3 N D n i k (s + 1) ((J : Int) - n))).length = l := ⟨_, rfl⟩
                rw [hls] at hvs' hfs ⊢
                have A2 := hid (bnext A1.out hbb)
                have VS := hid hvs'
                have FS : Hid (∀ g', (Value.slice as1 ls1 cs1).ownBlock = some g' → WL.heap.size ≤ g' ∧ g' ≠ g) := fun g' hg' => by
                  have h1 : wa.heap.size ≤ g' := hfs g' hg'
                  have h2 := hT.out.slot
                  have h3 := hB.out.size
                  have h4 := A1.out.size
                  exact ⟨by omega, by omega⟩
                have y1 := (hbb.cell (cell_lt m1)).trans m1
                have y2 := (hbb.cell (cell_lt m2)).trans m2
                have y3 := (hbb.cell (cell_lt m3)).trans m3
                have y4 := (hbb.cell (cell_lt m4)).trans m4
                clear hbb hvs hvs' hfs hls m1 m2 m3 m4
                go_wp2_with fail
                refine ⟨⟨y1, y2, y3, y4⟩, ?_⟩
                refine wpAnyH_done (by kernel_rfl) ?_ _
                simp only [Only, ThenL, List.drop_succ_cons, List.drop_zero]
                have TA := hid (hT.out.call A2.out)
                have fr := TA.out.slot.2.2.2.2 J
                have TB : Hid (NTab WL.heap.size (wb.setCell ⟨g, J, none⟩ (.slice as1 ls1 cs1)) g (M + 1) c (fun j => c3 N D n i k (s + 1) ((j : Int) - n))) := (TA.out.put J VS.out (.inr FS.out)).fn fun j hj => by
                  rw [c3_s]
                  unfold addM
                  have hh := HJ.out.2.2.2.2
                  by_cases hc : j = J
                  · have := STP.out
                    rw [c3_s] at this
                    unfold addM at this
                    rw [if_pos hc, hc]
                  · rw [if_neg hc, if_neg (by omega)]
                have GB := hid ((hG.out.call A2.out).other (a := ⟨g, J, none⟩) GD.out (.slice as1 ls1 cs1))
                have VB := hid (isN_other (hV.out.call A2.out) (a := ⟨g, J, none⟩) (.inr F5.out) (.slice as1 ls1 cs1))
                have BB := hid ((hB.out.trans (A2.out.mono hB.out.size)).setCell (p := ⟨g, J, none⟩) GL.out (.slice as1 ls1 cs1))
                clear y2 y3 y4
                go_wp2_with fail
                try simp only [Only]
                go_roundw
                case rel => exact ⟨s + 1, by go_num, by have := SLE.out; omega, TB, GB, VB, BB⟩
                case measure => simp [intOf] <;> (have := SLE.out; omega)
              · have e1 : s = n + 1 := by omega
                subst e1
                have q2 : decide (((n + 1 : Nat) : Int) ≤ (n : Int)) = false := by simp; omega
                have d2 : decide ((n : Int) + 1 ≤ (n : Int)) = false := by simp; omega
                have TE : Hid (NTab WL.heap.size wr g (M + 1) c (fun j => c3 N D n i (k + 1) 0 ((j : Int) - n))) := hT.out.fn fun j hj => by rw [c3_k]
                clear hs hlt
                go_wp2_with fail
                go_roundw
                case rel => exact ⟨k + 1, by go_num, by have := KL.out; omega, TE, hG, hV, hB⟩
                case measure => simp [intOf] <;> (have := KL.out; omega)
          · have e1 : k = n + 1 := by omega
            subst e1
            have q2 : decide (((n + 1 : Nat) : Int) ≤ (n : Int)) = false := by simp; omega
            have d2 : decide ((n : Int) + 1 ≤ (n : Int)) = false := by simp; omega
            have TE : Hid (NTab WL.heap.size wr g (M + 1) c (cF N D n true (i + 1))) := hT.out.fn fun j hj => by
              show c3 N D n i (n + 1) 0 ((j : Int) - n) = c3 N D n (i + 1) 0 0 ((j : Int) - n)
              rw [c3_i]
            clear hk hlt
            go_wp2_with fail
            go_roundw
            case rel => exact ⟨i + 1, by go_num, by have := IL.out; omega, TE, hV, hB⟩
            case measure => simp [intOf] <;> (have := IL.out; omega)
    · have e1 : i = n + 1 := by omega
      have q2 : decide ((i : Int) ≤ (n : Int)) = false := by simp; omega
      have d2 : decide (i ≤ n) = false := by simp; omega
      rw [e1] at hT
      have TE : Hid (NTab WL.heap.size wr g (M + 1) c (fun j => gV N D two n ((j : Int) - n))) := hT.out.fn fun j hj => cF_end HND.out (by have := HM.out; omega)
      have HVD : Hid (∀ v, nDigits (gV N D two n v) ≤ 4000) := fun v => gV_dig HND.out two v (by have := HN.out; omega)
      have HPD : Hid (nDigits (2 ^ n) ≤ 4000) := two_pow_digits (Nat.le_refl _) (by have := HN.out; omega)
      have HLD : Hid (nDigits (gL N D two n) ≤ 4000) := gL_dig HND.out two (by have := HN.out; omega)
      have HV2 : Hid (∀ v, gV N D two n v ≤ 2 ^ 256) := fun v => Nat.le_trans (gV_le HND.out two n v) (Nat.pow_le_pow_right (by omega) (by have := HN.out; omega))
      have HL2 : Hid (gL N D two n ≤ 2 ^ 256) := Nat.le_trans (gL_le HND.out two n) (Nat.pow_le_pow_right (by omega) (by have := HN.out; omega))
      have HLF : Hid (∀ i, (limbs (lfI (gV N D two n) (2 ^ n) n i)).length ≤ 1000000) := fun i => pw32 (Nat.sub_le _ _) HN.out
      have HLE : Hid (∀ i, i < M + 1 → gV N D two n ((i : Int) - n) ≤ lfI (gV N D two n) (2 ^ n) n i) := fun i hi => lfI_le HND.out (by have := HM.out; omega)
      have HEND : Hid (lfI (gV N D two n) (2 ^ n) n (M + 1) = gL N D two n) := by
        show _ = _
        rw [← HM.out]; exact lfI_end HND.out two n
      have HSh := fun V u x hu hx => hid (r3_Share V u x n hu (by have := HN.out; omega) hx)
      have HADD : Hid (∀ i, addL (sortM (glI (gV N D two n) (2 ^ n) n i)) (zB ((i : Int) - n)) (shB (gV N D two n ((i : Int) - n)) (2 ^ n)) = sortM (glI (gV N D two n) (2 ^ n) n (i + 1))) := fun i => glI_add (two_pw n) (HVD.out _) HPD.out
      have HLAT : Hid (addL (sortM (glI (gV N D two n) (2 ^ n) n (M + 1))) lateB (shB (gL N D two n) (2 ^ n)) = sortM (glP (gV N D two n) (2 ^ n) n (gL N D two n))) := by
        show _ = _
        rw [← HM.out]; exact glI_late (two_pw n) HLD.out HPD.out
      have V0 : Hid (IsN .i64 wr vt (lfI (gV N D two n) (2 ^ n) n 0)) := by
        show IsN _ _ _ _
        rw [lfI_zero]; exact hV.out
      have M0 : Hid (MRow wr (.slice none 0 0) (sortM (glI (gV N D two n) (2 ^ n) n 0))) := by
        show MRow _ _ _
        rw [show sortM (glI (gV N D two n) (2 ^ n) n 0) = [] by simp [sortM, glI]]
        exact MRow.nil _
      have HMB : Hid (M ≤ 64) := by show M ≤ 64; have := HM.out; have := HN.out; omega
      clear hi hlt hV hT e1
      go_wp2_with fail
      go_loopw [13, 18, 19] (fun s13 s18 s19 wr => ∃ i : Nat, s19 = .int .i64 (i : Nat) ∧ i ≤ M + 1 ∧ Hid (IsN .i64 wr s13 (lfI (gV N D two n) (2 ^ n) n i)) ∧ Hid (MRow wr s18 (sortM (glI (gV N D two n) (2 ^ n) n i))) ∧ Hid (NTab WL.heap.size wr g (M + 1) c (fun j => gV N D two n ((j : Int) - n))) ∧ Hid (Below WL.heap.size WL wr)) (fun s13 s18 s19 wr => M + 1 - (intOf s19).toNat)
      case atStart => exact ⟨0, rfl, Nat.zero_le _, V0, M0, TE, hB⟩
      case round =>
        clear V0 TE hB M0
        obtain ⟨i, rfl, hi, hV, hM, hT, hB⟩ := hrel
        by_cases hlt : i < M + 1
        · have q1 : decide ((i : Int) < ((M + 1 : Nat) : Int)) = true := by simp; omega
          have d1 : decide ((i : Int) < (M : Int) + 1) = true := by simp; omega
          have d1' : decide (i < M + 1) = true := by simp; omega
          have e0 : (0 : Int) ≤ (i : Int) := by omega
          have e1 : (i : Int) < ((M + 1 : Nat) : Int) := by omega
          have e1' : (i : Int) < (M : Int) + 1 := by omega
          have wi : IntKind.i64.wrap ((i : Int) + 1) = ((i + 1 : Nat) : Int) := by have := HMB.out; rw [IntWalk.i64_in _ ⟨by omega, by omega⟩]; omega
          have ws : IntKind.i64.wrap ((i : Int) - (n : Int)) = (i : Int) - (n : Int) := by have := HMB.out; have := HN.out; rw [IntWalk.i64_in _ ⟨by omega, by omega⟩]
          have IL := hid hlt
          obtain ⟨x, cx, hx, -⟩ := hT.out.at (i := i) hlt
          have XN := hid hx
          have HI := fun V => hid (r2_IntZ V ((i : Int) - n) (by have := HN.out; omega) (by have := HMB.out; omega))
          have RA := fun V u key p hu => hid (r4_Add V u (sortM (glI (gV N D two n) (2 ^ n) n i)) key p hu (by rw [sortM_length]; have := glI_len (gV N D two n) (2 ^ n) n i; have := HMB.out; omega))
          clear hx hi hlt
          go_wp2_with fail
          refine held_plain [0, 1, 2, 3, 5, 6, 7, 8, 9] 4 (fun W' => W'.cell? ⟨g, i, none⟩ = some x) (by kernel_rfl) (by kernel_rfl) (by kernel_rfl) (by kernel_rfl) cx ?_
          iterate 9
            refine ⟨_, rfl, ?_⟩
            apply Exists.intro
            refine ⟨.inl ⟨by rfl, ?_⟩, ?_⟩
            · (intro W' hW'; obtain r1 := hW'; go_simp; try (with_reducible rfl))
            (dsimp only [Act.put]; try simp only [List.setIfInBounds_toArray, List.set_cons_zero, List.set_cons_succ])
          refine held_one (i := 4) (by kernel_rfl) (by rfl) (by rfl) ?_
          go_wp2_with fail
          refine (HI _).out.mono ?_; rintro e wa ⟨rfl, hba⟩
          have A1 := hid (show Below wr.heap.size wr wa from (Below.refl _ _).drew.trans hba)
          have m1 := (A1.out.cell (cell_lt cx)).trans cx
          clear hba HI
          go_wp2_with fail
          refine ⟨m1, ?_⟩
          refine held_one (i := 10) (by kernel_rfl) (by rfl) (by rfl) ?_
          go_wp2_with fail
          refine (HSh _ _ _ (XN.out.call A1.out) (HV2.out _)).out.mono ?_; rintro e wb ⟨rfl, hbb⟩
          have A2 := hid (bnext A1.out hbb)
          have m2 := (hbb.cell (cell_lt m1)).trans m1
          clear hbb m1
          go_wp2_with fail
          refine ⟨m2, ?_⟩
          refine held_one (i := 11) (by kernel_rfl) (by rfl) (by rfl) ?_
          go_wp2_with fail
          refine (RA _ _ _ _ (hM.out.call A2.out)).out.mono ?_; rintro e wc ⟨⟨u, rfl, hu⟩, hbc⟩
          rw [HADD.out i] at hu
          have A3 := hid (bnext A2.out hbc); have MU := hid hu
          have m3 := (hbc.cell (cell_lt m2)).trans m2
          clear hbc hu m2 RA
          go_wp2_with fail
          refine ⟨m3, ?_⟩
          refine held_one (i := 12) (by kernel_rfl) (by rfl) (by rfl) ?_
          go_wp2_with fail
          refine ⟨m3, ?_⟩
          refine wpAnyH_done (by kernel_rfl) ?_ _
          simp only [Only]
          go_wp2_with fail
          refine (r1_Minus _ _ _ _ _ (hV.out.call A3.out) (XN.out.call A3.out) (HLE.out i IL.out) (HLF.out i)).mono ?_; rintro e wd ⟨⟨vr, rfl, hvr⟩, hbd⟩
          rw [lfI_succ] at hvr
          have A4 := hid (bnext A3.out hbd); have VR := hid hvr
          have M4 := hid (MU.out.call hbd); have T4 := hid (hT.out.call A4.out); have B4 := hid (hB.out.trans (A4.out.mono hB.out.size))
          clear hbd hvr m3 cx
          go_wp2_with fail
          go_roundw
          case rel => exact ⟨i + 1, by go_num, by have := IL.out; omega, VR, M4, T4, B4⟩
          case measure => simp [intOf] <;> (have := IL.out; omega)
        · have e1 : i = M + 1 := by omega
          subst e1
          have q1 : decide (((M + 1 : Nat) : Int) < ((M + 1 : Nat) : Int)) = false := by simp
          have d1 : decide ((M : Int) + 1 < (M : Int) + 1) = false := by simp
          have RA := fun V u key p hu => hid (r4_Add V u (sortM (glI (gV N D two n) (2 ^ n) n (M + 1))) key p hu (by rw [sortM_length]; have := glI_len (gV N D two n) (2 ^ n) n (M + 1); have := HMB.out; omega))
          have VL := hid (hV.out.cast HEND.out)
          clear hi hlt hV
          go_wp2_with fail
          refine (HSh _ _ _ VL.out HL2.out).out.mono ?_; rintro e wb ⟨rfl, hbb⟩
          have M1 := hid (hM.out.call hbb); have A1 := hid (bnext hB.out hbb)
          clear hbb
          go_wp2_with fail
          refine (RA _ _ _ _ M1.out).out.mono ?_; rintro e wc ⟨⟨u, rfl, hu⟩, hbc⟩
          have A2 := hid (BL.out.trans ((bnext A1.out hbc).mono BL.out.size))
          rw [show (⟨#[108, 97, 116, 101]⟩ : ByteArray) = lateB from rfl, HLAT.out] at hu
          have MU := hid hu
          clear hbc hu RA
          go_wp2_with fail
          go_ret2
          exact ⟨⟨_, rfl, MU.out⟩, A2.out⟩
end Go.Proofs.YtccalhlhdiapiaaGreatDoor
namespace Go.Proofs
open Go.Shelf
def Tryz.sortMW_ren : Go.Shelf.Ren := ⟨fun | 14 => 125 | 20 => 169 | 21 => 170 | 22 => 171 | 23 => 172 | 24 => 173 | 25 => 174 | 26 => 175 | 27 => 176 | 46 => 209 | 47 => 210 | 48 => 211 | 49 => 212 | 50 => 213 | 15 => 126 | 57 => 239 | 28 => 177 | 29 => 178 | n => n, fun | 24 => 33 | 22 => 27 | 3 => 3 | 25 => 93 | 4 => 4 | 0 => 0 | 46 => 186 | 45 => 185 | 50 => 190 | 66 => 220 | 39 => 114 | 55 => 147 | 70 => 224 | 76 => 251 | 77 => 252 | 53 => 162 | 5 => 5 | 9 => 9 | n => n, fun | n => n⟩
theorem Tryz.sortMW : Go.Proofs.SlLaysF0.n14 Tryz.prog Tryz.sortMW_ren := {
  mixed := by kernel_rfl
  f14 := ⟨Tryz.f125.name, by decide, Tryz.func125.trans (congrArg some (by kernel_rfl))⟩
  f15 := Tryz.func126.trans (congrArg some (by kernel_rfl))
  f20 := ⟨Tryz.f169.name, by decide, Tryz.func169.trans (congrArg some (by kernel_rfl))⟩
  f21 := ⟨Tryz.f170.name, by decide, Tryz.func170.trans (congrArg some (by kernel_rfl))⟩
  f22 := ⟨Tryz.f171.name, by decide, Tryz.func171.trans (congrArg some (by kernel_rfl))⟩
  f23 := ⟨Tryz.f172.name, by decide, Tryz.func172.trans (congrArg some (by kernel_rfl))⟩
  f24 := ⟨Tryz.f173.name, by decide, Tryz.func173.trans (congrArg some (by kernel_rfl))⟩
  f25 := ⟨Tryz.f174.name, by decide, Tryz.func174.trans (congrArg some (by kernel_rfl))⟩
  f26 := ⟨Tryz.f175.name, by decide, Tryz.func175.trans (congrArg some (by kernel_rfl))⟩
  f27 := ⟨Tryz.f176.name, by decide, Tryz.func176.trans (congrArg some (by kernel_rfl))⟩
  f28 := Tryz.func177.trans (congrArg some (by kernel_rfl))
  f29 := Tryz.func178.trans (congrArg some (by kernel_rfl))
  f46 := ⟨Tryz.f209.name, by decide, Tryz.func209.trans (congrArg some (by kernel_rfl))⟩
  f47 := Tryz.func210.trans (congrArg some (by kernel_rfl))
  f48 := Tryz.func211.trans (congrArg some (by kernel_rfl))
  f49 := ⟨Tryz.f212.name, by decide, Tryz.func212.trans (congrArg some (by kernel_rfl))⟩
  f50 := ⟨Tryz.f213.name, by decide, Tryz.func213.trans (congrArg some (by kernel_rfl))⟩
  f57 := ⟨Tryz.f239.name, by decide, Tryz.func239.trans (congrArg some (by kernel_rfl))⟩
  t0 := Tryz.underlying0
  a0 := Tryz.isAgg0
  z0 := Tryz.sizeOf0
  v0 := Tryz.zeroValue0
  t3 := Tryz.underlying3
  a3 := Tryz.isAgg3
  z3 := Tryz.sizeOf3
  v3 := Tryz.zeroValue3
  t4 := Tryz.underlying4
  a4 := Tryz.isAgg4
  z4 := Tryz.sizeOf4
  v4 := Tryz.zeroValue4
  t5 := Tryz.underlying5
  a5 := Tryz.isAgg5
  z5 := Tryz.sizeOf5
  v5 := Tryz.zeroValue5
  t9 := Tryz.underlying9
  a9 := Tryz.isAgg9
  z9 := Tryz.sizeOf9
  v9 := Tryz.zeroValue9
  t22 := Tryz.underlying27
  a22 := Tryz.isAgg27
  z22 := Tryz.sizeOf27
  v22 := Tryz.zeroValue27
  t25 := Tryz.underlying93
  a25 := Tryz.isAgg93
  z25 := Tryz.sizeOf93
  v25 := Tryz.zeroValue93
  t39 := Tryz.underlying114
  a39 := Tryz.isAgg114
  z39 := Tryz.sizeOf114
  v39 := Tryz.zeroValue114
  t45 := Tryz.underlying185
  a45 := Tryz.isAgg185
  z45 := Tryz.sizeOf185
  v45 := Tryz.zeroValue185
  t46 := Tryz.underlying186
  a46 := Tryz.isAgg186
  z46 := Tryz.sizeOf186
  v46 := Tryz.zeroValue186
  t50 := Tryz.underlying190
  a50 := Tryz.isAgg190
  z50 := Tryz.sizeOf190
  v50 := Tryz.zeroValue190
  t53 := Tryz.underlying162
  a53 := Tryz.isAgg162
  z53 := Tryz.sizeOf162
  v53 := Tryz.zeroValue162
  t55 := Tryz.underlying147
  a55 := Tryz.isAgg147
  z55 := Tryz.sizeOf147
  v55 := Tryz.zeroValue147
  t66 := Tryz.underlying220
  a66 := Tryz.isAgg220
  z66 := Tryz.sizeOf220
  v66 := Tryz.zeroValue220
  t70 := Tryz.underlying224
  a70 := Tryz.isAgg224
  z70 := Tryz.sizeOf224
  v70 := Tryz.zeroValue224
  t76 := Tryz.underlying251
  a76 := Tryz.isAgg251
  z76 := Tryz.sizeOf251
  v76 := Tryz.zeroValue251
  t77 := Tryz.underlying252
  a77 := Tryz.isAgg252
  z77 := Tryz.sizeOf252
  v77 := Tryz.zeroValue252 }
def Tryz.lenW_ren : Go.Shelf.Ren := ⟨fun | 125 => 126 | 128 => 177 | 129 => 178 | n => n, fun | 46 => 114 | 3 => 3 | 51 => 162 | 53 => 147 | 4 => 4 | 5 => 5 | 9 => 9 | n => n, fun | n => n⟩
theorem Tryz.lenW : Go.Proofs.Lays.n125 Tryz.prog Tryz.lenW_ren := {
  mixed := by kernel_rfl
  f125 := Tryz.func126.trans (congrArg some (by kernel_rfl))
  f128 := Tryz.func177.trans (congrArg some (by kernel_rfl))
  f129 := Tryz.func178.trans (congrArg some (by kernel_rfl))
  t3 := Tryz.underlying3
  a3 := Tryz.isAgg3
  z3 := Tryz.sizeOf3
  v3 := Tryz.zeroValue3
  t4 := Tryz.underlying4
  a4 := Tryz.isAgg4
  z4 := Tryz.sizeOf4
  v4 := Tryz.zeroValue4
  t5 := Tryz.underlying5
  a5 := Tryz.isAgg5
  z5 := Tryz.sizeOf5
  v5 := Tryz.zeroValue5
  t9 := Tryz.underlying9
  a9 := Tryz.isAgg9
  z9 := Tryz.sizeOf9
  v9 := Tryz.zeroValue9
  t46 := Tryz.underlying114
  a46 := Tryz.isAgg114
  z46 := Tryz.sizeOf114
  v46 := Tryz.zeroValue114
  t51 := Tryz.underlying162
  a51 := Tryz.isAgg162
  z51 := Tryz.sizeOf162
  v51 := Tryz.zeroValue162
  t53 := Tryz.underlying147
  a53 := Tryz.isAgg147
  z53 := Tryz.sizeOf147
  v53 := Tryz.zeroValue147 }
end Go.Proofs
namespace Go.Proofs.YtccalhlhdiapiaaGreatDoor
open Go.RowKit Go.Sort Go.Shelf Go.Lib
set_option linter.unusedVariables false
set_option linter.unusedSimpArgs false
def cmpK (p q : ByteArray × ByteArray) : Int := if keyL p < keyL q then -1 else if keyL q < keyL p then 1 else 0
theorem cmpK_neg (p q : ByteArray × ByteArray) : cmpK p q < 0 ↔ keyL p < keyL q := by
  unfold cmpK
  split
  · rename_i h; simp [h]
  · rename_i h
    split <;> simp [h]
def encM (p : ByteArray × ByteArray) : List Value := [.string p.1, .string p.2]
theorem swoM : SWO (ltOf cmpK) where
  irrefl x := by
    simp only [ltOf, decide_eq_false_iff_not, cmpK_neg]
    exact List.lt_irrefl _
  trans x y z h1 h2 := by
    simp only [ltOf, decide_eq_true_eq, cmpK_neg] at *
    exact List.lt_trans h1 h2
  ntrans x y z h1 h2 := by
    simp only [ltOf, decide_eq_false_iff_not, cmpK_neg, List.not_lt] at *
    exact List.le_trans h2 h1
theorem massC_at {L : List (ByteArray × ByteArray)} (i : Nat) : (massC L)[i]? = (L[i / 2]?).map (fun p => if i % 2 = 0 then Value.string p.1 else Value.string p.2) := by
  cases h : L[i / 2]? with
  | none =>
    rw [List.getElem?_eq_none_iff] at h
    rw [Option.map_none, List.getElem?_eq_none_iff, massC_length]
    omega
  | some p =>
    obtain ⟨h1, h2⟩ := massC_get h
    rw [Option.map_some]
    by_cases hm : i % 2 = 0
    · rw [if_pos hm, show i = 2 * (i / 2) by omega]; exact h1
    · rw [if_neg hm, show i = 2 * (i / 2) + 1 by omega]; exact h2
theorem flatK_mass (d : Array (ByteArray × ByteArray)) : (flatK encM 2 d).toList = massC d.toList := by
  apply List.ext_getElem?
  intro i
  rw [massC_at]
  by_cases hi : i < d.size * 2
  · have e1 := get_flatK encM 2 d i (by omega)
    rw [getElem!_pos _ _ (by simp; omega)] at e1
    have hi2 : i / 2 < d.size := by omega
    rw [Array.getElem?_toList, Array.getElem?_eq_getElem (by simp; omega), e1, Array.getElem?_toList, Array.getElem?_eq_getElem hi2, Option.map_some, getElem!_pos d (i / 2) hi2]
    by_cases hm : i % 2 = 0
    · rw [if_pos hm, hm]; rfl
    · rw [if_neg hm, show i % 2 = 1 by omega]; rfl
  · rw [List.getElem?_eq_none (by simp; omega), Array.getElem?_toList, Array.getElem?_eq_none (by omega)]; rfl
theorem heap_sortedK {w : World} {g n : Nat} {os : Array Obj} {cur : Array Value} {e : TypeId} {fr : Nat × Nat} (d : Array Value) (hb : w.heap[g]? = some (.cells cur e fr)) :
    (grow (putRow id (Sort.ahead w n) g 0 d) os).heap[g]? = some (.cells (putCells id 0 d cur) e fr) := by
  have hg : g < w.heap.size := (Array.getElem?_eq_some_iff.1 hb).1
  rw [Go.Sort.heap_grow_old _ _ (by simpa using hg)]
  simp [putRow, mapBlock, Sort.ahead, Array.getElem?_modify, hb, onCells]
theorem below_sortedK {w : World} {g n base : Nat} {os : Array Obj} (d : Array Value) (hb : base ≤ g) (hw : base ≤ w.heap.size) : Below base w (grow (putRow id (Sort.ahead w n) g 0 d) os) := by
  refine ⟨rfl, rfl, rfl, by simp, fun k hk => ?_⟩
  rw [Go.Sort.heap_grow_old _ _ (by simp; omega)]
  have : g ≠ k := by omega
  simp [putRow, mapBlock, Sort.ahead, Array.getElem?_modify, this]
theorem take_putCellsK (cur F : Array Value) (h : F.size ≤ cur.size) : (putCells id 0 F cur).toList.take F.size = F.toList := by
  apply List.ext_getElem?
  intro j
  by_cases hj : j < F.size
  · rw [List.getElem?_take_of_lt hj, Array.getElem?_toList]
    simp [putCells, hj, show j < cur.size by omega]
  · rw [List.getElem?_take_eq_none (by omega), List.getElem?_eq_none (by simp; omega)]
theorem permIn_all {d d' : Array (ByteArray × ByteArray)} (h : PermIn 0 d.size d d') : d'.size = d.size ∧ d'.toList.Perm d.toList := by
  obtain ⟨h1, _, h3⟩ := h
  refine ⟨h1, ?_⟩
  have e1 : d'.extract 0 d.size = d' := by rw [← h1]; simp
  have e2 : d.extract 0 d.size = d := by simp
  rwa [e1, e2] at h3
theorem sortedIn_all {d' : Array (ByteArray × ByteArray)} (h : SortedIn (ltOf cmpK) 0 d'.size d') : d'.toList.Pairwise (fun p q => leB (keyL p) (keyL q) = true) := by
  rw [List.pairwise_iff_getElem]
  intro i j hi hj hij
  have := h i j (Nat.zero_le _) hij (by simpa using hj)
  simp only [ltOf, decide_eq_false_iff_not, cmpK_neg, List.not_lt] at this
  rw [getElem!_pos _ _ (by simpa using hi), getElem!_pos _ _ (by simpa using hj)] at this
  simp only [leB, decide_eq_true_eq]
  simpa using this
theorem sorted_is {L M : List (ByteArray × ByteArray)} (hp : L.Perm M) (hs : L.Pairwise (fun p q => leB (keyL p) (keyL q) = true)) (nd : (M.map keyL).Nodup) : L = sortM M := by
  have nd2 : (L.map keyL).Nodup := ((hp.map keyL).nodup_iff).2 nd
  rw [← sortM_same nd2 nd (fun p => hp.mem_iff)]
  exact (List.mergeSort_of_pairwise hs).symm
set_option maxHeartbeats 2000000 in
theorem s_SortM (F : Nat) (g cap base : Nat) (d : Array (ByteArray × ByteArray)) (w : World) (cur : Array Value) (hb : base ≤ g) (hg : w.heap[g]? = some (.cells cur 33 (0, 0))) (h1 : d.size ≤ cap) (h2 : cap ≤ maxLen) (h3 : cur.size = cap * 2) (h4 : cur.toList.take (d.size * 2) = massC d.toList) (hs : d.size ≤ 1000) (hnd : (d.toList.map keyL).Nodup)
    (eg : ∀ args w, (callFunc F args).run Tryz.prog w = .ok (.enter F args) w) (hF : ∀ (x y : ByteArray × ByteArray) (W : World), Calls Tryz.prog F #[.agg #[.string x.1, .string x.2], .agg #[.string y.1, .string y.2]] W fun e w' => e = .returned (.int .i64 (cmpK x y)) ∧ ∃ n os', w' = grow (W.drewN n) os') :
    Calls Tryz.prog 76 #[.slice (some ⟨g, 0, none⟩) d.size cap, .func (.func F) #[] #[]] w fun e w' => e = .returned (.tuple #[]) ∧ w'.ownsRow base 33 2 (.slice (some ⟨g, 0, none⟩) d.size cap) d.size (massC (sortM d.toList)) ∧ Below base w w' := by
  have hblk : g < w.heap.size := (Array.getElem?_eq_some_iff.1 hg).1
  have hH : HoldsK encM 2 w g 0 d := by
    intro j hj
    have hj' : j < d.size * 2 := by simpa using hj
    refine ⟨?_, by simp [World.frozen?, hg]⟩
    have e : (cur.toList.take (d.size * 2))[j]? = (flatK encM 2 d).toList[j]? := by rw [h4, flatK_mass]
    rw [List.getElem?_take_of_lt hj'] at e
    simp only [World.cell?, hg, Nat.zero_add]
    simp only [Option.isSome_none, Bool.false_eq_true, if_false]
    rw [← Array.getElem?_toList, e, Array.getElem?_toList, Array.getElem?_eq_getElem hj, getElem!_pos (flatK encM 2 d) j hj]
    rfl
  have hcmp : CmpLays Tryz.prog F #[] encM 2 cmpK g 0 d.size w := fun _ _ _ _ x y => hF x y _
  have hd : ∀ x : ByteArray × ByteArray, (encM x).length = 2 := fun _ => rfl
  have h1c : ∀ x : ByteArray × ByteArray, ∀ v ∈ encM x, v.oneCell' = true := fun x v hv => by simp [encM] at hv; rcases hv with rfl | rfl <;> rfl
  have hlim : Lib.bitLen d.size < 4611686018427387904 := Nat.lt_of_le_of_lt (Lib.bitLen_le d.size 62 (by omega) (by omega)) (by omega)
  have hpd := AnyQ.pdqsortCmpFunc_all Tryz.sortMW 2 Tryz.isAgg33 Tryz.sizeOf33 encM cmpK F #[] swoM g 0 cap d w eg hcmp ⟨hd, h1c, hH, hblk⟩ (d.size + 1) 0 d.size (Lib.bitLen d.size) d w (by omega) rfl (SWK.start hH) (Nat.zero_le _) (Nat.le_refl _) (by omega) hlim (Or.inl rfl)
  change Calls Tryz.prog 125 _ _ _ at hpd
  have hbl : Calls Tryz.prog 126 #[.int .u64 (d.size : Int)] w fun e w' => e = .returned (.int .i64 (Lib.bitLen d.size : Nat)) ∧ w' = w := by
    have h := Any.bits_Len Tryz.lenW (d.size : Int) w (by omega) (by omega)
    rwa [Int.toNat_natCast] at h
  have wr : IntKind.u64.wrap (d.size : Int) = d.size := by simp [IntKind.wrap, IntKind.bits, IntKind.signed]; omega
  have hz := pdq_sorts (ltOf cmpK) swoM d 0 d.size (Lib.bitLen d.size) true true (Nat.zero_le _) (Nat.le_refl _) (Or.inl rfl)
  have P := permIn_all hz.1
  have hz2 := hz.2
  generalize pdq (ltOf cmpK) d 0 d.size (Lib.bitLen d.size) true true = d' at *
  have S := sortedIn_all (P.1 ▸ hz2)
  have hd' : d'.toList = sortM d.toList := sorted_is P.2 S hnd
  clear hH hcmp hz hz2 hF
  have h2h := hid h2; clear h2
  have h4h := hid h4; clear h4
  have HND := hid hnd; clear hnd
  go_enter Tryz.func76, Tryz.ntmps76
  go_wp2_with fail
  refine hbl.mono ?_; rintro e w' ⟨rfl, rfl⟩
  go_wp2_with fail
  refine hpd.mono ?_; rintro e w' ⟨rfl, n, os, rfl⟩
  go_wp2_with fail
  go_end0
  refine ⟨rfl, ⟨?_, .inr ⟨g, cap, _, rfl, hb, heap_sortedK _ hg, h1, h2h.out, by simp [putCells, h3], ?_⟩⟩, below_sortedK _ hb (by omega)⟩
  · rw [massC_length, ← hd']; simp [P.1]
  · rw [← hd', ← flatK_mass]
    have := take_putCellsK cur (flatK encM 2 d') (by rw [size_flatK, P.1, h3]; omega)
    rwa [size_flatK, P.1] at this
end Go.Proofs.YtccalhlhdiapiaaGreatDoor
