/- Texts that the proof rests on, merged: R2r, R2b, R1e, R2p, R2c, R2o, R2t, R2u, R2da, Iz. -/
import Derived.Test.YtpheklgnmbpobaaGreatDoorKq8
import Derived.IntWalk
import Derived.Deep.RegionHeld3
import Derived.Deep.DeepCutAuto
namespace Go.Proofs.YtpheklgnmbpobaaGreatDoor
open Go.RowKit
open Go.Lib (decDigits nDigits)
set_option linter.unusedVariables false
set_option linter.unusedSimpArgs false
structure CutR (s W B D : ByteArray) (S M I fb : Bool) (k : Nat) : Prop where
  sl : ∀ w, Calls Tryz.prog 106 #[.string s] w fun e w' => e = .returned (.int .i64 k) ∧ w = w'
  kle : k ≤ s.size
  cutW : s.extract 0 k = W
  cutB : S = true → s.extract (k + 1) s.size = B
  has : S = decide (k < s.size)
  int : ∀ w, Calls Tryz.prog 107 #[.string W] w fun e w' => e = .returned (.tuple #[.bool M, .string D, .bool I]) ∧ w = w'
  form : ∀ w, Calls Tryz.prog 108 #[.string B] w fun e w' => e = .returned (.bool fb) ∧ w = w'
theorem cutR_of (s : ByteArray) (hs : s.size ≤ 1000000) : CutR s (cW s) (cB s) (iD (cW s)) (cS s) (iM (cW s)) (iB (cW s)) (fB (cB s)) (cW s).size := by
  have key : ∀ k, isSlash s.data.toList k → k = (cW s).size := by
    intro k hk
    obtain ⟨h1, h2, -⟩ := slash_cut hk
    rw [h2]
    simp
    omega
  have ex : ∃ k, isSlash s.data.toList k := by
    rcases sl_cases s.data.toList with hn | ⟨A, B, hA, e⟩
    · exact ⟨s.data.toList.length, Nat.le_refl _, fun j b _ hb => hn b (List.mem_of_getElem? hb), fun h => absurd h (Nat.lt_irrefl _)⟩
    · refine ⟨A.length, by rw [e]; simp, fun j b hj hb => ?_, fun _ => by rw [e]; simp⟩
      rw [e, List.getElem?_append_left hj] at hb
      exact hA b (List.mem_of_getElem? hb)
  obtain ⟨k, hk⟩ := ex
  obtain ⟨h1, h2, h3, h4⟩ := slash_cut hk
  have hk' := key k hk
  subst hk'
  exact {
    sl := fun w => (r2_slash w s (by omega)).mono (by
      rintro e w' ⟨⟨j, rfl, hj⟩, rfl⟩
      rw [key j hj]
      exact ⟨rfl, rfl⟩)
    kle := h1
    cutW := h2.symm
    cutB := fun h => (h4 (by rw [h3] at h; simpa using h)).symm
    has := h3
    int := fun w => r2_integer w (cW s) (by have := cW_size s; omega)
    form := fun w => r2_digits w (cB s) (by have := cB_size s; omega) }
def RetR (x : Int) (m : Bool) (n d : Nat) (e : Ending) (w' : World) : Prop := ∃ v, e = .returned (.tuple #[v, .int .i64 x]) ∧ (x = 0 → ∃ N D, v = .agg #[.bool m, N, D] ∧ IsN .i64 w' N n ∧ IsN .i64 w' D d) ∧ (x ≠ 0 → v = .agg #[.bool false, .slice none 0 0, .slice none 0 0])
theorem RetR.err {x : Int} {m : Bool} {n d : Nat} {w' : World} (h : x ≠ 0) : RetR x m n d (.returned (.tuple #[.agg #[.bool false, .slice none 0 0, .slice none 0 0], .int .i64 x])) w' := ⟨_, rfl, fun e => absurd e h, fun _ => rfl⟩
set_option maxRecDepth 100000 in
set_option maxHeartbeats 1000000 in
theorem rd_bad (w : World) (s W B D : ByteArray) (S M I fb : Bool) (k : Nat) (hs : s.size ≤ 1000000) (HC : CutR s W B D S M I fb k)
    (h : (I && (!S || (decide (D ≠ ⟨#[48]⟩) && fb && decide (B ≠ ⟨#[48]⟩) && decide (B ≠ ⟨#[49]⟩)))) = false) :
    Calls Tryz.prog 52 #[.string s] w fun e w' => e = .returned (.tuple #[.agg #[.bool false, .slice none 0 0, .slice none 0 0], .int .i64 3]) ∧ Below w.heap.size w w' := by
  have key : (I = false) ∨ (I = true ∧ S = true ∧ (D = ⟨#[48]⟩ ∨ (¬ D = ⟨#[48]⟩ ∧ (fb = false ∨ (fb = true ∧ (B = ⟨#[48]⟩ ∨ (¬ B = ⟨#[48]⟩ ∧ B = ⟨#[49]⟩))))))) := by
    by_cases h1 : D = ⟨#[48]⟩ <;> by_cases h2 : B = ⟨#[48]⟩ <;> by_cases h3 : B = ⟨#[49]⟩ <;> cases I <;> cases S <;> cases fb <;> simp [h1, h2, h3] at h ⊢
  have HK := hid HC
  have kle := HC.kle
  have hlt := HC.has
  have cw := hid HC.cutW
  have cb := hid HC.cutB
  clear HC h
  have t0 := hid (Blk.new w #[.bool false, .slice none 0 0, .slice none 0 0] 75)
  have t1 := hid ((Below.refl w.heap.size w).alloc (Nat.le_refl _) (.cells #[.bool false, .slice none 0 0, .slice none 0 0] 75))
  have d0 := t0.out.cell 0
  have d1 := t0.out.cell 1
  have d2 := t0.out.cell 2
  have e0 := t0.out.free 0
  have e1 := t0.out.free 1
  have e2 := t0.out.free 2
  simp at d0 d1 d2
  have ht : ∀ {b : Bool}, b = decide (k < s.size) → decide (k < s.size) = b := fun h => h.symm
  have wk : IntKind.i64.wrap ((k : Int) + 1) = (k : Int) + 1 := by rw [IntWalk.i64_in _ ⟨by omega, by omega⟩]
  have kle2 : S = true → k + 1 ≤ s.size := fun h => by rw [h] at hlt; have := of_decide_eq_true hlt.symm; omega
  rcases key with rfl | ⟨rfl, rfl, rfl | ⟨h1, rfl | ⟨rfl, rfl | ⟨h2, rfl⟩⟩⟩⟩
  · cases S
    · have q0 := ht hlt
      clear hlt ht kle2
      go_enter Tryz.func52, Tryz.ntmps52
      go_wp2_with (first
        | (go_at_call 106; refine (HK.out.sl _).mono ?_; rintro e w1 ⟨rfl, rfl⟩)
        | (go_at_call 107; rw [cw.out]; refine (HK.out.int _).mono ?_; rintro e w2 ⟨rfl, rfl⟩)
        | (go_at_call 108; (first | rw [cb.out trivial] | rw [cb.out rfl]); refine (HK.out.form _).mono ?_; rintro e w3 ⟨rfl, rfl⟩)
        | fail)
      obtain ⟨s1, s2⟩ := set3 t0.out false none none 0 0 0 0
      have f0 := s2.cell 0
      have f1 := s2.cell 1
      have f2 := s2.cell 2
      simp at f0 f1 f2
      refine bodyPost_ret (v := .tuple #[.agg #[.bool false, .slice none 0 0, .slice none 0 0], .int .i64 3]) (by simp [results, Tryz.results52, go_sem, f0, f1, f2]) rfl ⟨rfl, ?_⟩
      first | exact t1.out | exact ((t1.out.setCell (Nat.le_refl _) _).setCell (Nat.le_refl _) _).setCell (Nat.le_refl _) _
    · have q0 := ht hlt
      have kle3 := kle2 rfl
      clear hlt ht kle2
      go_enter Tryz.func52, Tryz.ntmps52
      go_wp2_with (first
        | (go_at_call 106; refine (HK.out.sl _).mono ?_; rintro e w1 ⟨rfl, rfl⟩)
        | (go_at_call 107; rw [cw.out]; refine (HK.out.int _).mono ?_; rintro e w2 ⟨rfl, rfl⟩)
        | (go_at_call 108; (first | rw [cb.out trivial] | rw [cb.out rfl]); refine (HK.out.form _).mono ?_; rintro e w3 ⟨rfl, rfl⟩)
        | fail)
      obtain ⟨s1, s2⟩ := set3 t0.out false none none 0 0 0 0
      have f0 := s2.cell 0
      have f1 := s2.cell 1
      have f2 := s2.cell 2
      simp at f0 f1 f2
      refine bodyPost_ret (v := .tuple #[.agg #[.bool false, .slice none 0 0, .slice none 0 0], .int .i64 3]) (by simp [results, Tryz.results52, go_sem, f0, f1, f2]) rfl ⟨rfl, ?_⟩
      first | exact t1.out | exact ((t1.out.setCell (Nat.le_refl _) _).setCell (Nat.le_refl _) _).setCell (Nat.le_refl _) _
  · have q0 := ht hlt
    have kle3 := kle2 rfl
    clear hlt ht kle2
    go_enter Tryz.func52, Tryz.ntmps52
    go_wp2_with (first
      | (go_at_call 106; refine (HK.out.sl _).mono ?_; rintro e w1 ⟨rfl, rfl⟩)
      | (go_at_call 107; rw [cw.out]; refine (HK.out.int _).mono ?_; rintro e w2 ⟨rfl, rfl⟩)
      | (go_at_call 108; (first | rw [cb.out trivial] | rw [cb.out rfl]); refine (HK.out.form _).mono ?_; rintro e w3 ⟨rfl, rfl⟩)
      | fail)
    obtain ⟨s1, s2⟩ := set3 t0.out false none none 0 0 0 0
    have f0 := s2.cell 0
    have f1 := s2.cell 1
    have f2 := s2.cell 2
    simp at f0 f1 f2
    refine bodyPost_ret (v := .tuple #[.agg #[.bool false, .slice none 0 0, .slice none 0 0], .int .i64 3]) (by simp [results, Tryz.results52, go_sem, f0, f1, f2]) rfl ⟨rfl, ?_⟩
    first | exact t1.out | exact ((t1.out.setCell (Nat.le_refl _) _).setCell (Nat.le_refl _) _).setCell (Nat.le_refl _) _
  · have q0 := ht hlt
    have kle3 := kle2 rfl
    have i1 := ne_lit (l := [48]) h1
    clear hlt ht kle2
    go_enter Tryz.func52, Tryz.ntmps52
    go_wp2_with (first
      | (go_at_call 106; refine (HK.out.sl _).mono ?_; rintro e w1 ⟨rfl, rfl⟩)
      | (go_at_call 107; rw [cw.out]; refine (HK.out.int _).mono ?_; rintro e w2 ⟨rfl, rfl⟩)
      | (go_at_call 108; (first | rw [cb.out trivial] | rw [cb.out rfl]); refine (HK.out.form _).mono ?_; rintro e w3 ⟨rfl, rfl⟩)
      | fail)
    obtain ⟨s1, s2⟩ := set3 t0.out false none none 0 0 0 0
    have f0 := s2.cell 0
    have f1 := s2.cell 1
    have f2 := s2.cell 2
    simp at f0 f1 f2
    refine bodyPost_ret (v := .tuple #[.agg #[.bool false, .slice none 0 0, .slice none 0 0], .int .i64 3]) (by simp [results, Tryz.results52, go_sem, f0, f1, f2]) rfl ⟨rfl, ?_⟩
    first | exact t1.out | exact ((t1.out.setCell (Nat.le_refl _) _).setCell (Nat.le_refl _) _).setCell (Nat.le_refl _) _
  · have q0 := ht hlt
    have kle3 := kle2 rfl
    have i1 := ne_lit (l := [48]) h1
    clear hlt ht kle2
    go_enter Tryz.func52, Tryz.ntmps52
    go_wp2_with (first
      | (go_at_call 106; refine (HK.out.sl _).mono ?_; rintro e w1 ⟨rfl, rfl⟩)
      | (go_at_call 107; rw [cw.out]; refine (HK.out.int _).mono ?_; rintro e w2 ⟨rfl, rfl⟩)
      | (go_at_call 108; (first | rw [cb.out trivial] | rw [cb.out rfl]); refine (HK.out.form _).mono ?_; rintro e w3 ⟨rfl, rfl⟩)
      | fail)
    obtain ⟨s1, s2⟩ := set3 t0.out false none none 0 0 0 0
    have f0 := s2.cell 0
    have f1 := s2.cell 1
    have f2 := s2.cell 2
    simp at f0 f1 f2
    refine bodyPost_ret (v := .tuple #[.agg #[.bool false, .slice none 0 0, .slice none 0 0], .int .i64 3]) (by simp [results, Tryz.results52, go_sem, f0, f1, f2]) rfl ⟨rfl, ?_⟩
    first | exact t1.out | exact ((t1.out.setCell (Nat.le_refl _) _).setCell (Nat.le_refl _) _).setCell (Nat.le_refl _) _
  · have q0 := ht hlt
    have kle3 := kle2 rfl
    have i1 := ne_lit (l := [48]) h1
    have i2 := ne_lit (l := [48]) h2
    clear hlt ht kle2
    go_enter Tryz.func52, Tryz.ntmps52
    go_wp2_with (first
      | (go_at_call 106; refine (HK.out.sl _).mono ?_; rintro e w1 ⟨rfl, rfl⟩)
      | (go_at_call 107; rw [cw.out]; refine (HK.out.int _).mono ?_; rintro e w2 ⟨rfl, rfl⟩)
      | (go_at_call 108; (first | rw [cb.out trivial] | rw [cb.out rfl]); refine (HK.out.form _).mono ?_; rintro e w3 ⟨rfl, rfl⟩)
      | fail)
    obtain ⟨s1, s2⟩ := set3 t0.out false none none 0 0 0 0
    have f0 := s2.cell 0
    have f1 := s2.cell 1
    have f2 := s2.cell 2
    simp at f0 f1 f2
    refine bodyPost_ret (v := .tuple #[.agg #[.bool false, .slice none 0 0, .slice none 0 0], .int .i64 3]) (by simp [results, Tryz.results52, go_sem, f0, f1, f2]) rfl ⟨rfl, ?_⟩
    first | exact t1.out | exact ((t1.out.setCell (Nat.le_refl _) _).setCell (Nat.le_refl _) _).setCell (Nat.le_refl _) _
set_option maxRecDepth 100000 in
set_option maxHeartbeats 1000000 in
theorem rd_long (w : World) (s W B D : ByteArray) (S M fb : Bool) (k : Nat) (hs : s.size ≤ 1000000) (HC : CutR s W B D S M true fb k)
    (h : S = false ∨ (S = true ∧ ¬ D = ⟨#[48]⟩ ∧ ¬ B = ⟨#[48]⟩ ∧ ¬ B = ⟨#[49]⟩ ∧ fb = true)) (hl : 4000 < D.size ∨ (¬ 4000 < D.size ∧ S = true ∧ 4000 < B.size)) :
    Calls Tryz.prog 52 #[.string s] w fun e w' => e = .returned (.tuple #[.agg #[.bool false, .slice none 0 0, .slice none 0 0], .int .i64 5]) ∧ Below w.heap.size w w' := by
  have HK := hid HC
  have kle := HC.kle
  have hlt := HC.has
  have cw := hid HC.cutW
  have cb := hid HC.cutB
  clear HC
  have t0 := hid (Blk.new w #[.bool false, .slice none 0 0, .slice none 0 0] 75)
  have t1 := hid ((Below.refl w.heap.size w).alloc (Nat.le_refl _) (.cells #[.bool false, .slice none 0 0, .slice none 0 0] 75))
  have wk : IntKind.i64.wrap ((k : Int) + 1) = (k : Int) + 1 := by rw [IntWalk.i64_in _ ⟨by omega, by omega⟩]
  have d0 := t0.out.cell 0
  have d1 := t0.out.cell 1
  have d2 := t0.out.cell 2
  have e0 := t0.out.free 0
  have e1 := t0.out.free 1
  have e2 := t0.out.free 2
  simp at d0 d1 d2
  have kle2 : S = true → k + 1 ≤ s.size := fun h => by rw [h] at hlt; have := of_decide_eq_true hlt.symm; omega
  have q0 := hlt.symm
  clear hlt
  rcases h with rfl | ⟨rfl, h1, h2, h3, rfl⟩
  · have q1 : decide ((4000 : Int) < (D.size : Int)) = true := by
      rcases hl with hl | ⟨_, hl, _⟩
      · simp; omega
      · cases hl
    clear hl kle2
    go_enter Tryz.func52, Tryz.ntmps52
    go_wp2_with (first
      | (go_at_call 106; refine (HK.out.sl _).mono ?_; rintro e w1 ⟨rfl, rfl⟩)
      | (go_at_call 107; rw [cw.out]; refine (HK.out.int _).mono ?_; rintro e w2 ⟨rfl, rfl⟩)
      | (go_at_call 108; (first | rw [cb.out trivial] | rw [cb.out rfl]); refine (HK.out.form _).mono ?_; rintro e w3 ⟨rfl, rfl⟩)
      | fail)
    obtain ⟨s1, s2⟩ := set3 t0.out false none none 0 0 0 0
    have f0 := s2.cell 0
    have f1 := s2.cell 1
    have f2 := s2.cell 2
    simp at f0 f1 f2
    refine bodyPost_ret (v := .tuple #[.agg #[.bool false, .slice none 0 0, .slice none 0 0], .int .i64 5]) (by simp [results, Tryz.results52, go_sem, f0, f1, f2]) rfl ⟨rfl, ?_⟩
    first | exact t1.out | exact ((t1.out.setCell (Nat.le_refl _) _).setCell (Nat.le_refl _) _).setCell (Nat.le_refl _) _
  · have kle3 := kle2 rfl
    have i1 := ne_lit (l := [48]) h1
    have i2 := ne_lit (l := [48]) h2
    have i3 := ne_lit (l := [49]) h3
    clear kle2
    rcases hl with hl | ⟨hl, -, hl2⟩
    · have q1 : decide ((4000 : Int) < (D.size : Int)) = true := by simp; omega
      clear hl
      go_enter Tryz.func52, Tryz.ntmps52
      go_wp2_with (first
        | (go_at_call 106; refine (HK.out.sl _).mono ?_; rintro e w1 ⟨rfl, rfl⟩)
        | (go_at_call 107; rw [cw.out]; refine (HK.out.int _).mono ?_; rintro e w2 ⟨rfl, rfl⟩)
        | (go_at_call 108; (first | rw [cb.out trivial] | rw [cb.out rfl]); refine (HK.out.form _).mono ?_; rintro e w3 ⟨rfl, rfl⟩)
        | fail)
      obtain ⟨s1, s2⟩ := set3 t0.out false none none 0 0 0 0
      have f0 := s2.cell 0
      have f1 := s2.cell 1
      have f2 := s2.cell 2
      simp at f0 f1 f2
      refine bodyPost_ret (v := .tuple #[.agg #[.bool false, .slice none 0 0, .slice none 0 0], .int .i64 5]) (by simp [results, Tryz.results52, go_sem, f0, f1, f2]) rfl ⟨rfl, ?_⟩
      first | exact t1.out | exact ((t1.out.setCell (Nat.le_refl _) _).setCell (Nat.le_refl _) _).setCell (Nat.le_refl _) _
    · have q1 : decide ((4000 : Int) < (D.size : Int)) = false := by simp; omega
      have q2 : decide ((4000 : Int) < (B.size : Int)) = true := by simp; omega
      clear hl hl2
      go_enter Tryz.func52, Tryz.ntmps52
      go_wp2_with (first
        | (go_at_call 106; refine (HK.out.sl _).mono ?_; rintro e w1 ⟨rfl, rfl⟩)
        | (go_at_call 107; rw [cw.out]; refine (HK.out.int _).mono ?_; rintro e w2 ⟨rfl, rfl⟩)
        | (go_at_call 108; (first | rw [cb.out trivial] | rw [cb.out rfl]); refine (HK.out.form _).mono ?_; rintro e w3 ⟨rfl, rfl⟩)
        | fail)
      obtain ⟨s1, s2⟩ := set3 t0.out false none none 0 0 0 0
      have f0 := s2.cell 0
      have f1 := s2.cell 1
      have f2 := s2.cell 2
      simp at f0 f1 f2
      refine bodyPost_ret (v := .tuple #[.agg #[.bool false, .slice none 0 0, .slice none 0 0], .int .i64 5]) (by simp [results, Tryz.results52, go_sem, f0, f1, f2]) rfl ⟨rfl, ?_⟩
      first | exact t1.out | exact ((t1.out.setCell (Nat.le_refl _) _).setCell (Nat.le_refl _) _).setCell (Nat.le_refl _) _
set_option maxRecDepth 100000 in
set_option maxHeartbeats 1000000 in
theorem rd_frac (w : World) (s W B D : ByteArray) (M : Bool) (k : Nat) (hs : s.size ≤ 1000000) (HC : CutR s W B D true M true true k)
    (h1 : ¬ D = ⟨#[48]⟩) (h2 : ¬ B = ⟨#[48]⟩) (h3 : ¬ B = ⟨#[49]⟩) (hl1 : ¬ 4000 < D.size) (hl2 : ¬ 4000 < B.size) (hd1 : allDig D.data.toList) (hd2 : allDig B.data.toList) :
    Calls Tryz.prog 52 #[.string s] w fun e w' => RetR (if Nat.gcd (bN D) (bN B) = 1 then 0 else 3) M (bN D) (bN B) e w' ∧ Below w.heap.size w w' := by
  obtain ⟨xc, hxc⟩ : ∃ x : Int, (if Nat.gcd (bN D) (bN B) = 1 then 0 else 3) = x := ⟨_, rfl⟩
  rw [hxc]
  have HXC := hid hxc
  clear hxc
  have HK := hid HC
  have kle := HC.kle
  have hlt := HC.has
  have cw := hid HC.cutW
  have cb := hid HC.cutB
  clear HC
  have t0 := hid (Blk.new w #[.bool false, .slice none 0 0, .slice none 0 0] 75)
  have t1 := hid ((Below.refl w.heap.size w).alloc (Nat.le_refl _) (.cells #[.bool false, .slice none 0 0, .slice none 0 0] 75))
  have wk : IntKind.i64.wrap ((k : Int) + 1) = (k : Int) + 1 := by rw [IntWalk.i64_in _ ⟨by omega, by omega⟩]
  have kle3 : k + 1 ≤ s.size := by have := of_decide_eq_true hlt.symm; omega
  have q0 := hlt.symm
  clear hlt
  have i1 := ne_lit (l := [48]) h1
  have i2 := ne_lit (l := [48]) h2
  have i3 := ne_lit (l := [49]) h3
  have q1 : decide ((4000 : Int) < (D.size : Int)) = false := by simp; omega
  have q2 : decide ((4000 : Int) < (B.size : Int)) = false := by simp; omega
  have L1 := hid (bN_limbs hd1 hl1)
  have L2 := hid (bN_limbs hd2 hl2)
  have P1 := fun W => hid (r1_Read W D hd1 (by omega))
  have P2 := fun W => hid (r1_Read W B hd2 (by omega))
  clear hd1 hd2 h1 h2 h3 hl1 hl2
  go_enter Tryz.func52, Tryz.ntmps52
  go_wp2_with (first
    | (go_at_call 106; refine (HK.out.sl _).mono ?_; rintro e w1 ⟨rfl, rfl⟩)
    | (go_at_call 107; rw [cw.out]; refine (HK.out.int _).mono ?_; rintro e w2 ⟨rfl, rfl⟩)
    | (go_at_call 108; (first | rw [cb.out trivial] | rw [cb.out rfl]); refine (HK.out.form _).mono ?_; rintro e w3 ⟨rfl, rfl⟩)
    | fail)
  refine (P1 _).out.mono ?_; rintro e w4 ⟨⟨v4, rfl, hv4⟩, hb4⟩
  have x4 := hid (t0.out.call hb4)
  have y4 := hid (bnext t1.out hb4)
  have N4 := hid hv4
  clear hb4 hv4
  obtain ⟨a4, c4, rfl, _⟩ := N4.out.openI
  obtain ⟨k1, hk1⟩ : ∃ k, (limbs (dv D.data.toList)).length = k := ⟨_, rfl⟩
  rw [hk1] at N4 ⊢
  clear P1
  go_wp2_with fail
  refine (P2 _).out.mono ?_; rintro e w5 ⟨⟨v5, rfl, hv5⟩, hb5⟩
  have x5 := hid (x4.out.call hb5)
  have y5 := hid (bnext y4.out hb5)
  have N5 := hid (N4.out.call hb5)
  have D5 := hid hv5
  clear hb5 hv5
  obtain ⟨a5, c5, rfl, _⟩ := D5.out.openI
  obtain ⟨k2, hk2⟩ : ∃ k, (limbs (dv B.data.toList)).length = k := ⟨_, rfl⟩
  rw [hk2] at D5 ⊢
  clear P2
  go_wp2_with fail
  have z5 := hid (Blk.new w5 #[.bool M, .slice a4 k1 c4, .slice a5 k2 c5] 75)
  have b5 := hid ((Below.refl w5.heap.size w5).alloc (Nat.le_refl _) (.cells #[.bool M, .slice a4 k1 c4, .slice a5 k2 c5] 75))
  have g0 := z5.out.cell 0
  have g1 := z5.out.cell 1
  have g2 := z5.out.cell 2
  simp at g0 g1 g2
  go_wp2_with fail
  refine (r1_Common _ _ _ _ _ (N5.out.call b5.out) (D5.out.call b5.out) L1.out L2.out).mono ?_
  rintro e w6 ⟨⟨v6, rfl, hv6⟩, hb6⟩
  have z6 := hid (z5.out.call hb6)
  have x6 := hid ((x5.out.call b5.out).call hb6)
  have y6 := hid (bnext (bnext y5.out b5.out) hb6)
  have N6 := hid ((N5.out.call b5.out).call hb6)
  have D6 := hid ((D5.out.call b5.out).call hb6)
  have G6 := hid hv6
  clear hb6 hv6 g0 g1 g2
  go_wp2_with fail
  refine (r2_one _).mono ?_
  rintro e w7 ⟨⟨v7, rfl, hv7⟩, hb7⟩
  have z7 := hid (z6.out.call hb7)
  have x7 := hid (x6.out.call hb7)
  have y7 := hid (bnext y6.out hb7)
  have N7 := hid (N6.out.call hb7)
  have D7 := hid (D6.out.call hb7)
  have G7 := hid (G6.out.call hb7)
  have O7 := hid hv7
  clear hb7 hv7
  go_wp2_with fail
  refine (r1_Order _ _ _ _ _ G7.out O7.out).mono ?_
  rintro e w8 ⟨rfl, hb8⟩
  have z8 := hid (z7.out.call hb8)
  have x8 := hid (x7.out.call hb8)
  have y8 := hid (bnext y7.out hb8)
  have N8 := hid (N7.out.call hb8)
  have D8 := hid (D7.out.call hb8)
  clear hb8
  have d0 := x8.out.cell 0
  have d1 := x8.out.cell 1
  have d2 := x8.out.cell 2
  have e0 := x8.out.free 0
  have e1 := x8.out.free 1
  have e2 := x8.out.free 2
  have g0 := z8.out.cell 0
  have g1 := z8.out.cell 1
  have g2 := z8.out.cell 2
  simp at d0 d1 d2 g0 g1 g2
  
  by_cases hG : Nat.gcd (bN D) (bN B) = 1
  · have hO : ordN (Nat.gcd (dv D.data.toList) (dv B.data.toList)) 1 = 0 := by rw [show Nat.gcd (dv D.data.toList) (dv B.data.toList) = 1 from hG]; exact ordN_eq
    have X0 := hid (show xc = 0 from by rw [← HXC.out, if_pos hG])
    rw [hO]
    clear hO hG
    go_wp2_with fail
    obtain ⟨s1, s2⟩ := set3 x8.out M a4 a5 k1 c4 k2 c5
    have f0 := s2.cell 0
    have f1 := s2.cell 1
    have f2 := s2.cell 2
    simp at f0 f1 f2
    refine bodyPost_ret (v := .tuple #[.agg #[.bool M, .slice a4 k1 c4, .slice a5 k2 c5], .int .i64 0]) (by simp [results, Tryz.results52, go_sem, f0, f1, f2]) rfl ⟨by rw [X0.out]; exact ⟨_, rfl, fun _ => ⟨_, _, rfl, s1 _ _ _ N8.out, s1 _ _ _ D8.out⟩, fun h => absurd rfl h⟩, ?_⟩
    exact ((y8.out.setCell (Nat.le_refl _) _).setCell (Nat.le_refl _) _).setCell (Nat.le_refl _) _
  · have hO : (ordN (Nat.gcd (dv D.data.toList) (dv B.data.toList)) 1 != 0) = true := by
      have hG' : ¬ Nat.gcd (dv D.data.toList) (dv B.data.toList) = 1 := hG
      unfold ordN
      split
      · rfl
      · split
        · rfl
        · omega
    have X0 := hid (show xc = 3 from by rw [← HXC.out, if_neg hG])
    obtain ⟨t, ht⟩ : ∃ t, ordN (Nat.gcd (dv D.data.toList) (dv B.data.toList)) 1 = t := ⟨_, rfl⟩
    rw [ht] at hO ⊢
    clear ht hG
    go_wp2_with fail
    obtain ⟨s1, s2⟩ := set3 x8.out false none none 0 0 0 0
    have f0 := s2.cell 0
    have f1 := s2.cell 1
    have f2 := s2.cell 2
    simp at f0 f1 f2
    refine bodyPost_ret (v := .tuple #[.agg #[.bool false, .slice none 0 0, .slice none 0 0], .int .i64 3]) (by simp [results, Tryz.results52, go_sem, f0, f1, f2]) rfl ⟨by rw [X0.out]; exact RetR.err (by decide), ?_⟩
    exact ((y8.out.setCell (Nat.le_refl _) _).setCell (Nat.le_refl _) _).setCell (Nat.le_refl _) _
set_option maxRecDepth 100000 in
set_option maxHeartbeats 1000000 in
theorem rd_int (w : World) (s W B D : ByteArray) (M fb : Bool) (k : Nat) (hs : s.size ≤ 1000000) (HC : CutR s W B D false M true fb k)
    (hl1 : ¬ 4000 < D.size) (hd1 : allDig D.data.toList) :
    Calls Tryz.prog 52 #[.string s] w fun e w' => RetR 0 M (bN D) 1 e w' ∧ Below w.heap.size w w' := by
  have HK := hid HC
  have kle := HC.kle
  have hlt := HC.has
  have cw := hid HC.cutW
  have cb := hid HC.cutB
  clear HC
  have t0 := hid (Blk.new w #[.bool false, .slice none 0 0, .slice none 0 0] 75)
  have t1 := hid ((Below.refl w.heap.size w).alloc (Nat.le_refl _) (.cells #[.bool false, .slice none 0 0, .slice none 0 0] 75))
  have wk : IntKind.i64.wrap ((k : Int) + 1) = (k : Int) + 1 := by rw [IntWalk.i64_in _ ⟨by omega, by omega⟩]
  have q0 := hlt.symm
  clear hlt
  have q1 : decide ((4000 : Int) < (D.size : Int)) = false := by simp; omega
  have L1 := hid (bN_limbs hd1 hl1)
  have L2 : Hid ((limbs 1).length ≤ 1000000) := by show _ ≤ _; rw [limbs_one]; decide
  have P1 := fun W => hid (r1_Read W D hd1 (by omega))
  have P2 : ∀ W, Hid (Calls Tryz.prog 44 #[.string ⟨#[49]⟩] W fun e w' => RetN .i64 1 e w' ∧ Below W.heap.size W w') := fun W => hid (r1_Read W ⟨#[49]⟩ (by intro b hb; simp at hb; subst hb; rfl) (Nat.succ_le_succ (Nat.zero_le _)))
  have hO : ordN (Nat.gcd (dv D.data.toList) 1) 1 = 0 := by rw [Nat.gcd_one_right]; exact ordN_eq
  have HO := hid hO
  clear hd1 hl1 hO
  go_enter Tryz.func52, Tryz.ntmps52
  go_wp2_with (first
    | (go_at_call 106; refine (HK.out.sl _).mono ?_; rintro e w1 ⟨rfl, rfl⟩)
    | (go_at_call 107; rw [cw.out]; refine (HK.out.int _).mono ?_; rintro e w2 ⟨rfl, rfl⟩)
    | (go_at_call 108; (first | rw [cb.out trivial] | rw [cb.out rfl]); refine (HK.out.form _).mono ?_; rintro e w3 ⟨rfl, rfl⟩)
    | fail)
  refine (P1 _).out.mono ?_; rintro e w4 ⟨⟨v4, rfl, hv4⟩, hb4⟩
  have x4 := hid (t0.out.call hb4)
  have y4 := hid (bnext t1.out hb4)
  have N4 := hid hv4
  clear hb4 hv4
  obtain ⟨a4, c4, rfl, _⟩ := N4.out.openI
  obtain ⟨k1, hk1⟩ : ∃ k, (limbs (dv D.data.toList)).length = k := ⟨_, rfl⟩
  rw [hk1] at N4 ⊢
  clear P1
  go_wp2_with fail
  refine (P2 _).out.mono ?_; rintro e w5 ⟨⟨v5, rfl, hv5⟩, hb5⟩
  have x5 := hid (x4.out.call hb5)
  have y5 := hid (bnext y4.out hb5)
  have N5 := hid (N4.out.call hb5)
  have D5 := hid hv5
  clear hb5 hv5
  obtain ⟨a5, c5, rfl, _⟩ := D5.out.openI
  obtain ⟨k2, hk2⟩ : ∃ k, (limbs 1).length = k := ⟨_, rfl⟩
  rw [hk2] at D5 ⊢
  clear P2
  go_wp2_with fail
  have z5 := hid (Blk.new w5 #[.bool M, .slice a4 k1 c4, .slice a5 k2 c5] 75)
  have b5 := hid ((Below.refl w5.heap.size w5).alloc (Nat.le_refl _) (.cells #[.bool M, .slice a4 k1 c4, .slice a5 k2 c5] 75))
  have g0 := z5.out.cell 0
  have g1 := z5.out.cell 1
  have g2 := z5.out.cell 2
  simp at g0 g1 g2
  go_wp2_with fail
  refine (r1_Common _ _ _ _ _ (N5.out.call b5.out) (D5.out.call b5.out) L1.out L2.out).mono ?_
  rintro e w6 ⟨⟨v6, rfl, hv6⟩, hb6⟩
  have z6 := hid (z5.out.call hb6)
  have x6 := hid ((x5.out.call b5.out).call hb6)
  have y6 := hid (bnext (bnext y5.out b5.out) hb6)
  have N6 := hid ((N5.out.call b5.out).call hb6)
  have D6 := hid ((D5.out.call b5.out).call hb6)
  have G6 := hid hv6
  clear hb6 hv6 g0 g1 g2
  go_wp2_with fail
  refine (r2_one _).mono ?_
  rintro e w7 ⟨⟨v7, rfl, hv7⟩, hb7⟩
  have z7 := hid (z6.out.call hb7)
  have x7 := hid (x6.out.call hb7)
  have y7 := hid (bnext y6.out hb7)
  have N7 := hid (N6.out.call hb7)
  have D7 := hid (D6.out.call hb7)
  have G7 := hid (G6.out.call hb7)
  have O7 := hid hv7
  clear hb7 hv7
  go_wp2_with fail
  refine (r1_Order _ _ _ _ _ G7.out O7.out).mono ?_
  rintro e w8 ⟨rfl, hb8⟩
  have z8 := hid (z7.out.call hb8)
  have x8 := hid (x7.out.call hb8)
  have y8 := hid (bnext y7.out hb8)
  have N8 := hid (N7.out.call hb8)
  have D8 := hid (D7.out.call hb8)
  clear hb8
  have d0 := x8.out.cell 0
  have d1 := x8.out.cell 1
  have d2 := x8.out.cell 2
  have e0 := x8.out.free 0
  have e1 := x8.out.free 1
  have e2 := x8.out.free 2
  have g0 := z8.out.cell 0
  have g1 := z8.out.cell 1
  have g2 := z8.out.cell 2
  simp at d0 d1 d2 g0 g1 g2
  
  rw [HO.out]
  go_wp2_with fail
  obtain ⟨s1, s2⟩ := set3 x8.out M a4 a5 k1 c4 k2 c5
  have f0 := s2.cell 0
  have f1 := s2.cell 1
  have f2 := s2.cell 2
  simp at f0 f1 f2
  refine bodyPost_ret (v := .tuple #[.agg #[.bool M, .slice a4 k1 c4, .slice a5 k2 c5], .int .i64 0]) (by simp [results, Tryz.results52, go_sem, f0, f1, f2]) rfl ⟨⟨_, rfl, fun _ => ⟨_, _, rfl, s1 _ _ _ N8.out, s1 _ _ _ D8.out⟩, fun h => absurd rfl h⟩, ?_⟩
  exact ((y8.out.setCell (Nat.le_refl _) _).setCell (Nat.le_refl _) _).setCell (Nat.le_refl _) _
theorem r2_Read0 (w : World) (s : ByteArray) (hs : s.size ≤ 1000000) :
    Calls Tryz.prog 52 #[.string s] w fun e w' => RetR (qE s) (iM (cW s)) (bN (iD (cW s))) (bN (qD s)) e w' ∧ Below w.heap.size w w' := by
  have HC := cutR_of s hs
  by_cases hq : qB s = true
  · have hi := qB_whole hq
    rw [hi] at HC
    have hdD := fB_dig (iB_form hi)
    have hcS : cS s = false ∨ (cS s = true ∧ ¬ iD (cW s) = ⟨#[48]⟩ ∧ ¬ cB s = ⟨#[48]⟩ ∧ ¬ cB s = ⟨#[49]⟩ ∧ fB (cB s) = true) := by
      have hq' := hq
      unfold qB at hq'
      simp only [Bool.and_eq_true, Bool.or_eq_true, Bool.not_eq_true', decide_eq_true_eq] at hq'
      rcases hq'.2 with h | h
      · exact .inl h
      · cases hc : cS s
        · exact .inl rfl
        · exact .inr ⟨rfl, h.1.1.1, h.1.2, h.2, h.1.1.2⟩
    by_cases hl : qL s = true
    · have e : qE s = 5 := by simp [qE, hq, hl]
      rw [e]
      unfold qL at hl
      simp only [Bool.or_eq_true, decide_eq_true_eq] at hl
      refine (rd_long w s _ _ _ _ _ _ _ hs HC hcS ?_).mono ?_
      · by_cases h4 : 4000 < (iD (cW s)).size
        · exact .inl h4
        · refine .inr ⟨h4, ?_⟩
          rcases hcS with hc | ⟨hc, -⟩
          · rw [qD_false hc] at hl
            exact absurd (hl.resolve_left h4) (by decide)
          · rw [qD_true hc] at hl
            exact ⟨hc, hl.resolve_left h4⟩
      · rintro e w' ⟨rfl, hb⟩
        exact ⟨RetR.err (by decide), hb⟩
    · have hl' : qL s = false := by simpa using hl
      have hl1 : ¬ 4000 < (iD (cW s)).size ∧ ¬ 4000 < (qD s).size := by
        unfold qL at hl'
        simpa using hl'
      rcases hcS with hc | ⟨hc, h1, h2, h3, h4⟩
      · rw [hc] at HC
        have e : qE s = 0 := by simp [qE, hq, hl', qG, hc]
        rw [e, qD_false hc]
        exact rd_int w s _ _ _ _ _ _ hs HC hl1.1 hdD
      · rw [hc, h4] at HC
        have hl2 := hl1.2
        rw [qD_true hc] at hl2
        have e : qE s = if Nat.gcd (bN (iD (cW s))) (bN (cB s)) = 1 then 0 else 3 := by
          simp only [qE, hq, hl', qG, hc, qD_true hc]
          by_cases hg : Nat.gcd (bN (iD (cW s))) (bN (cB s)) = 1 <;> simp [hg]
        rw [e, qD_true hc]
        exact rd_frac w s _ _ _ _ _ hs HC h1 h2 h3 hl1.1 hl2 hdD (fB_dig h4)
  · have hq' : qB s = false := by simpa using hq
    have e : qE s = 3 := by simp [qE, hq']
    rw [e]
    refine (rd_bad w s _ _ _ _ _ _ _ _ hs HC hq').mono ?_
    rintro e w' ⟨rfl, hb⟩
    exact ⟨RetR.err (by decide), hb⟩
def RetQE (s : ByteArray) (e : Ending) (w' : World) : Prop := ∃ v, e = .returned (.tuple #[v, .int .i64 (qE s)]) ∧ (qE s = 0 → IsQ .i64 w' v (vQ s)) ∧ (qE s ≠ 0 → v = .agg #[.bool false, .slice none 0 0, .slice none 0 0])
theorem r2_Read (w : World) (s : ByteArray) (hs : s.size ≤ 1000000) :
    Calls Tryz.prog 52 #[.string s] w fun e w' => RetQE s e w' ∧ Below w.heap.size w w' := by
  refine (r2_Read0 w s hs).mono ?_
  rintro e w' ⟨⟨v, rfl, h1, h2⟩, hb⟩
  refine ⟨⟨v, rfl, fun h => ?_, h2⟩, hb⟩
  obtain ⟨N, D, rfl, hN, hD⟩ := h1 h
  obtain ⟨e1, e2, e3⟩ := vQ_ok h
  exact ⟨N, D, by rw [e1], by rw [e2]; exact hN, by rw [e3]; exact hD⟩
end Go.Proofs.YtpheklgnmbpobaaGreatDoor
namespace Go.Proofs.YtpheklgnmbpobaaGreatDoor
open Go.RowKit
set_option linter.unusedVariables false
theorem neg_parts {q : Rat} {m : Bool} (hm : decide (q.num < 0) = m) : decide ((-q).num < 0) = (!m && decide (0 < q.num.natAbs)) ∧ (-q).num.natAbs = q.num.natAbs ∧ (-q).den = q.den := by
  refine ⟨?_, by rw [Rat.neg_num, Int.natAbs_neg], Rat.neg_den q⟩
  rw [Rat.neg_num, ← hm, Bool.eq_iff_iff]
  simp only [Bool.and_eq_true, Bool.not_eq_true', decide_eq_true_eq, decide_eq_false_iff_not]
  omega
theorem r2_Negative (w : World) (v : Value) (q : Rat) (h : IsQ .i64 w v q) :
    Calls Tryz.prog 105 #[v] w fun e w' => RetQ .i64 (-q) e w' ∧ Below w.heap.size w w' := by
  obtain ⟨N, D, rfl, hn, hd⟩ := h.ex
  obtain ⟨m, hm⟩ : ∃ m, decide (q.num < 0) = m := ⟨_, rfl⟩
  have HN := hid hn; have HD := hid hd; have HP := hid (neg_parts hm)
  rw [hm]
  obtain ⟨a1, c1, rfl, _⟩ := hn.openI
  obtain ⟨a2, c2, rfl, _⟩ := hd.openI
  clear hn hd hm h
  obtain ⟨l, hl⟩ : ∃ l, (limbs q.num.natAbs).length = l := ⟨_, rfl⟩
  have hz : decide (0 < l) = decide (0 < q.num.natAbs) := by
    have h1 : l = 0 ↔ q.num.natAbs = 0 := by rw [← hl, List.length_eq_zero_iff, limbs_nil]
    exact decide_eq_decide.2 (by omega)
  have HZ := hid hz; have HL := hid hl
  rw [hl]
  clear hz hl
  go_enter Tryz.func105, Tryz.ntmps105
  go_wp2_with fail
  all_goals
    obtain ⟨p1, p2, p3⟩ := HP.out
    rw [← HZ.out] at p1
    refine bodyPost_ret (v := .agg #[_, .slice a1 l c1, .slice a2 (limbs q.den).length c2]) (by simp [results, Tryz.results105, go_sem]; rfl) rfl ⟨⟨_, rfl, ⟨.slice a1 l c1, .slice a2 (limbs q.den).length c2, ?_, ?_, ?_⟩⟩, ?_⟩
    · rw [p1]; clear HP HZ HL HN HD; simp_all
    · have hh := HN.out
      rw [HL.out] at hh
      rw [p2]; exact hh.call (((Below.refl w.heap.size w).alloc (Nat.le_refl _) _).alloc (by simp) _)
    · rw [p3]; exact HD.out.call (((Below.refl w.heap.size w).alloc (Nat.le_refl _) _).alloc (by simp) _)
    · exact (((Below.refl w.heap.size w).alloc (Nat.le_refl _) _).alloc (by simp) _)
end Go.Proofs.YtpheklgnmbpobaaGreatDoor
namespace Go.Proofs.YtpheklgnmbpobaaGreatDoor
open Go.RowKit
set_option linter.unusedVariables false
set_option maxHeartbeats 4000000 in
theorem r1_Minus (w : World) (v u : Value) (a b : Nat) (ha : IsN .i64 w v a) (hb : IsN .i64 w u b) (hle : b ≤ a) (hla : (limbs a).length ≤ 1000000) :
    Calls Tryz.prog 104 #[v, u] w fun e w' => RetN .i64 (a - b) e w' ∧ Below w.heap.size w w' := by
  obtain ⟨i0, hi, hz0, hz1, hz2⟩ := info_parts info_int
  obtain ⟨a1, c1, rfl, h1, h2, h3⟩ := ha.openI
  obtain ⟨a2, c2, rfl, k1, k2, k3⟩ := hb.openI
  have H3 := hid h3; have K3 := hid k3; clear h3 k3 ha hb
  have hmn := limbs_length_mono hle
  obtain ⟨n, ea⟩ : ∃ n, (limbs a).length = n := ⟨_, rfl⟩
  obtain ⟨m, eb⟩ : ∃ m, (limbs b).length = m := ⟨_, rfl⟩
  rw [ea] at h1 hla hmn ⊢
  rw [eb] at k1 hmn ⊢
  have HA := hid ea; have HB := hid eb; have HL := hid hle
  clear ea eb hle
  go_enter Tryz.func104, Tryz.ntmps104
  go_wp2_with fail
  go_loopw [5, 6, 7, 8] (fun o cc i nn wr => ∃ (s : List Nat) (c : Nat) (C : Int), i = .int .i64 s.length ∧ cc = .int .i64 C ∧ C = (c : Int) ∧ c ≤ 1 ∧ s.length ≤ n ∧ Hid (MinusI a b s c) ∧ Hid (wr.ownsRow w.heap.size 3 1 o s.length (ints .i64 s)) ∧ Hid (Below w.heap.size w wr))
    (fun _ _ i _ _ => n - (intOf i).toNat)
  case atStart => exact ⟨[], 0, 0, rfl, rfl, rfl, by omega, by simp, MinusI.start a b, World.ownsRow_nil _ _ _ _, Below.refl _ _⟩
  case round =>
    obtain ⟨s, c, C, rfl, rfl, hC, hc1, hs1, hP, hO, hB⟩ := hrel
    obtain ⟨ao, co, rfl⟩ := owns_ex hO.out
    by_cases hA : s.length < n
    · obtain ⟨x, hx⟩ : ∃ x, (limbs a)[s.length]? = some x := ⟨_, List.getElem?_eq_getElem (by rw [HA.out]; exact hA)⟩
      obtain ⟨g, og, rfl, hg, hc⟩ := H3.out _ x hx
      have hc' := (hB.out.cell (p := ⟨g, og + s.length, none⟩) hg).trans hc
      have hxl := (sm_limbs a).get hx
      have HX := hid hx; clear hx hc
      by_cases hB' : s.length < m
      · obtain ⟨y, hy⟩ : ∃ y, (limbs b)[s.length]? = some y := ⟨_, List.getElem?_eq_getElem (by rw [HB.out]; exact hB')⟩
        obtain ⟨g', og', rfl, hg', hd⟩ := K3.out _ y hy
        have hd' := (hB.out.cell (p := ⟨g', og' + s.length, none⟩) hg').trans hd
        have hyl := (sm_limbs b).get hy
        have HY := hid hy; clear hy hd
        rcases (show c = 0 ∨ c = 1 by omega) with rfl | rfl
        · obtain rfl : C = 0 := by omega
          clear hC
          by_cases hneg : x < y + 0
          · obtain ⟨z, hz0', hz1', hzI⟩ : ∃ z : Nat, x + 1000000000 * 1 = z + 0 + y ∧ z < 1000000000 ∧ Hid ((↑x - ↑y + 1000000000 : Int) = (z : Int)) := ⟨((↑x - ↑y + 1000000000 : Int)).toNat, by omega, by omega, by rw [Hid]; omega⟩
            have HN := hid (hP.out.next (z := z) (c' := 1) (by rw [getD_of HX.out, getD_of HY.out]; omega) hz1' (by omega))
            clear hz0' hz1'
            have q1 : decide ((x : Int) - (y : Int) < 0) = true := by simp <;> omega
            clear hneg
            go_wp2_with (at_builtin; refine wpList_append_own _ rfl _ _ 69 rfl w.heap.size 3 i0 (.int .i64 0) 1 8 Tryz.underlying69 hi hz0 hz1 hz2 rfl (by decide) _ s.length _ rfl (hO.out.alloc _) ⟨wr.heap.size, 0, none⟩ 1 1 [.int .i64 ((↑x - ↑y + 1000000000 : Int))] rfl rfl (cell_one_new wr (.int .i64 ((↑x - ↑y + 1000000000 : Int))) 3) (by simp [Value.oneCell']) (by unfold maxLen; omega) (by omega) (by have := hB.out.size; simp; omega) ?_; intro v' w3 hown3 hgrow3 _; have HO3 := hid hown3; have HG3 := hid hgrow3; clear hown3 hgrow3)
            rw [hzI.out] at HO3
            obtain ⟨n1, n2⟩ := own_next hO.out hB.out HO3.out HG3.out
            have N1 := hid n1; have N2 := hid n2; clear n1 n2 HO3 HG3
            obtain ⟨a3, k3, rfl⟩ := owns_ex N1.out
            go_wp2_with fail
            go_roundw
            case rel => exact ⟨s ++ [z], 1, _, by simp, rfl, by simp, by omega, by simp <;> omega, HN, N1, N2⟩
            case measure => simp [intOf] <;> omega
          · obtain ⟨z, hz0', hz1', hzI⟩ : ∃ z : Nat, x + 1000000000 * 0 = z + 0 + y ∧ z < 1000000000 ∧ Hid ((↑x - ↑y : Int) = (z : Int)) := ⟨((↑x - ↑y : Int)).toNat, by omega, by omega, by rw [Hid]; omega⟩
            have HN := hid (hP.out.next (z := z) (c' := 0) (by rw [getD_of HX.out, getD_of HY.out]; omega) hz1' (by omega))
            clear hz0' hz1'
            have q1 : decide ((x : Int) - (y : Int) < 0) = false := by simp <;> omega
            clear hneg
            go_wp2_with (at_builtin; refine wpList_append_own _ rfl _ _ 69 rfl w.heap.size 3 i0 (.int .i64 0) 1 8 Tryz.underlying69 hi hz0 hz1 hz2 rfl (by decide) _ s.length _ rfl (hO.out.alloc _) ⟨wr.heap.size, 0, none⟩ 1 1 [.int .i64 ((↑x - ↑y : Int))] rfl rfl (cell_one_new wr (.int .i64 ((↑x - ↑y : Int))) 3) (by simp [Value.oneCell']) (by unfold maxLen; omega) (by omega) (by have := hB.out.size; simp; omega) ?_; intro v' w3 hown3 hgrow3 _; have HO3 := hid hown3; have HG3 := hid hgrow3; clear hown3 hgrow3)
            rw [hzI.out] at HO3
            obtain ⟨n1, n2⟩ := own_next hO.out hB.out HO3.out HG3.out
            have N1 := hid n1; have N2 := hid n2; clear n1 n2 HO3 HG3
            obtain ⟨a3, k3, rfl⟩ := owns_ex N1.out
            go_wp2_with fail
            go_roundw
            case rel => exact ⟨s ++ [z], 0, _, by simp, rfl, by simp, by omega, by simp <;> omega, HN, N1, N2⟩
            case measure => simp [intOf] <;> omega
        · obtain rfl : C = 1 := by omega
          clear hC
          by_cases hneg : x < y + 1
          · obtain ⟨z, hz0', hz1', hzI⟩ : ∃ z : Nat, x + 1000000000 * 1 = z + 1 + y ∧ z < 1000000000 ∧ Hid ((↑x - 1 - ↑y + 1000000000 : Int) = (z : Int)) := ⟨((↑x - 1 - ↑y + 1000000000 : Int)).toNat, by omega, by omega, by rw [Hid]; omega⟩
            have HN := hid (hP.out.next (z := z) (c' := 1) (by rw [getD_of HX.out, getD_of HY.out]; omega) hz1' (by omega))
            clear hz0' hz1'
            have q1 : decide ((x : Int) - 1 - (y : Int) < 0) = true := by simp <;> omega
            clear hneg
            go_wp2_with (at_builtin; refine wpList_append_own _ rfl _ _ 69 rfl w.heap.size 3 i0 (.int .i64 0) 1 8 Tryz.underlying69 hi hz0 hz1 hz2 rfl (by decide) _ s.length _ rfl (hO.out.alloc _) ⟨wr.heap.size, 0, none⟩ 1 1 [.int .i64 ((↑x - 1 - ↑y + 1000000000 : Int))] rfl rfl (cell_one_new wr (.int .i64 ((↑x - 1 - ↑y + 1000000000 : Int))) 3) (by simp [Value.oneCell']) (by unfold maxLen; omega) (by omega) (by have := hB.out.size; simp; omega) ?_; intro v' w3 hown3 hgrow3 _; have HO3 := hid hown3; have HG3 := hid hgrow3; clear hown3 hgrow3)
            rw [hzI.out] at HO3
            obtain ⟨n1, n2⟩ := own_next hO.out hB.out HO3.out HG3.out
            have N1 := hid n1; have N2 := hid n2; clear n1 n2 HO3 HG3
            obtain ⟨a3, k3, rfl⟩ := owns_ex N1.out
            go_wp2_with fail
            go_roundw
            case rel => exact ⟨s ++ [z], 1, _, by simp, rfl, by simp, by omega, by simp <;> omega, HN, N1, N2⟩
            case measure => simp [intOf] <;> omega
          · obtain ⟨z, hz0', hz1', hzI⟩ : ∃ z : Nat, x + 1000000000 * 0 = z + 1 + y ∧ z < 1000000000 ∧ Hid ((↑x - 1 - ↑y : Int) = (z : Int)) := ⟨((↑x - 1 - ↑y : Int)).toNat, by omega, by omega, by rw [Hid]; omega⟩
            have HN := hid (hP.out.next (z := z) (c' := 0) (by rw [getD_of HX.out, getD_of HY.out]; omega) hz1' (by omega))
            clear hz0' hz1'
            have q1 : decide ((x : Int) - 1 - (y : Int) < 0) = false := by simp <;> omega
            clear hneg
            go_wp2_with (at_builtin; refine wpList_append_own _ rfl _ _ 69 rfl w.heap.size 3 i0 (.int .i64 0) 1 8 Tryz.underlying69 hi hz0 hz1 hz2 rfl (by decide) _ s.length _ rfl (hO.out.alloc _) ⟨wr.heap.size, 0, none⟩ 1 1 [.int .i64 ((↑x - 1 - ↑y : Int))] rfl rfl (cell_one_new wr (.int .i64 ((↑x - 1 - ↑y : Int))) 3) (by simp [Value.oneCell']) (by unfold maxLen; omega) (by omega) (by have := hB.out.size; simp; omega) ?_; intro v' w3 hown3 hgrow3 _; have HO3 := hid hown3; have HG3 := hid hgrow3; clear hown3 hgrow3)
            rw [hzI.out] at HO3
            obtain ⟨n1, n2⟩ := own_next hO.out hB.out HO3.out HG3.out
            have N1 := hid n1; have N2 := hid n2; clear n1 n2 HO3 HG3
            obtain ⟨a3, k3, rfl⟩ := owns_ex N1.out
            go_wp2_with fail
            go_roundw
            case rel => exact ⟨s ++ [z], 0, _, by simp, rfl, by simp, by omega, by simp <;> omega, HN, N1, N2⟩
            case measure => simp [intOf] <;> omega
      · skip
        rcases (show c = 0 ∨ c = 1 by omega) with rfl | rfl
        · obtain rfl : C = 0 := by omega
          clear hC
          by_cases hneg : x < 0 + 0
          · omega
          · obtain ⟨z, hz0', hz1', hzI⟩ : ∃ z : Nat, x + 1000000000 * 0 = z + 0 + 0 ∧ z < 1000000000 ∧ Hid ((↑x : Int) = (z : Int)) := ⟨((↑x : Int)).toNat, by omega, by omega, by rw [Hid]; omega⟩
            have HN := hid (hP.out.next (z := z) (c' := 0) (by rw [getD_of HX.out, getD_none (by rw [HB.out]; omega)]; omega) hz1' (by omega))
            clear hz0' hz1'
            have q1 : decide ((x : Int) < 0) = false := by simp <;> omega
            clear hneg
            go_wp2_with (at_builtin; refine wpList_append_own _ rfl _ _ 69 rfl w.heap.size 3 i0 (.int .i64 0) 1 8 Tryz.underlying69 hi hz0 hz1 hz2 rfl (by decide) _ s.length _ rfl (hO.out.alloc _) ⟨wr.heap.size, 0, none⟩ 1 1 [.int .i64 ((↑x : Int))] rfl rfl (cell_one_new wr (.int .i64 ((↑x : Int))) 3) (by simp [Value.oneCell']) (by unfold maxLen; omega) (by omega) (by have := hB.out.size; simp; omega) ?_; intro v' w3 hown3 hgrow3 _; have HO3 := hid hown3; have HG3 := hid hgrow3; clear hown3 hgrow3)
            rw [hzI.out] at HO3
            obtain ⟨n1, n2⟩ := own_next hO.out hB.out HO3.out HG3.out
            have N1 := hid n1; have N2 := hid n2; clear n1 n2 HO3 HG3
            obtain ⟨a3, k3, rfl⟩ := owns_ex N1.out
            go_wp2_with fail
            go_roundw
            case rel => exact ⟨s ++ [z], 0, _, by simp, rfl, by simp, by omega, by simp <;> omega, HN, N1, N2⟩
            case measure => simp [intOf] <;> omega
        · obtain rfl : C = 1 := by omega
          clear hC
          by_cases hneg : x < 0 + 1
          · obtain ⟨z, hz0', hz1', hzI⟩ : ∃ z : Nat, x + 1000000000 * 1 = z + 1 + 0 ∧ z < 1000000000 ∧ Hid ((↑x - 1 + 1000000000 : Int) = (z : Int)) := ⟨((↑x - 1 + 1000000000 : Int)).toNat, by omega, by omega, by rw [Hid]; omega⟩
            have HN := hid (hP.out.next (z := z) (c' := 1) (by rw [getD_of HX.out, getD_none (by rw [HB.out]; omega)]; omega) hz1' (by omega))
            clear hz0' hz1'
            have q1 : decide ((x : Int) - 1 < 0) = true := by simp <;> omega
            clear hneg
            go_wp2_with (at_builtin; refine wpList_append_own _ rfl _ _ 69 rfl w.heap.size 3 i0 (.int .i64 0) 1 8 Tryz.underlying69 hi hz0 hz1 hz2 rfl (by decide) _ s.length _ rfl (hO.out.alloc _) ⟨wr.heap.size, 0, none⟩ 1 1 [.int .i64 ((↑x - 1 + 1000000000 : Int))] rfl rfl (cell_one_new wr (.int .i64 ((↑x - 1 + 1000000000 : Int))) 3) (by simp [Value.oneCell']) (by unfold maxLen; omega) (by omega) (by have := hB.out.size; simp; omega) ?_; intro v' w3 hown3 hgrow3 _; have HO3 := hid hown3; have HG3 := hid hgrow3; clear hown3 hgrow3)
            rw [hzI.out] at HO3
            obtain ⟨n1, n2⟩ := own_next hO.out hB.out HO3.out HG3.out
            have N1 := hid n1; have N2 := hid n2; clear n1 n2 HO3 HG3
            obtain ⟨a3, k3, rfl⟩ := owns_ex N1.out
            go_wp2_with fail
            go_roundw
            case rel => exact ⟨s ++ [z], 1, _, by simp, rfl, by simp, by omega, by simp <;> omega, HN, N1, N2⟩
            case measure => simp [intOf] <;> omega
          · obtain ⟨z, hz0', hz1', hzI⟩ : ∃ z : Nat, x + 1000000000 * 0 = z + 1 + 0 ∧ z < 1000000000 ∧ Hid ((↑x - 1 : Int) = (z : Int)) := ⟨((↑x - 1 : Int)).toNat, by omega, by omega, by rw [Hid]; omega⟩
            have HN := hid (hP.out.next (z := z) (c' := 0) (by rw [getD_of HX.out, getD_none (by rw [HB.out]; omega)]; omega) hz1' (by omega))
            clear hz0' hz1'
            have q1 : decide ((x : Int) - 1 < 0) = false := by simp <;> omega
            clear hneg
            go_wp2_with (at_builtin; refine wpList_append_own _ rfl _ _ 69 rfl w.heap.size 3 i0 (.int .i64 0) 1 8 Tryz.underlying69 hi hz0 hz1 hz2 rfl (by decide) _ s.length _ rfl (hO.out.alloc _) ⟨wr.heap.size, 0, none⟩ 1 1 [.int .i64 ((↑x - 1 : Int))] rfl rfl (cell_one_new wr (.int .i64 ((↑x - 1 : Int))) 3) (by simp [Value.oneCell']) (by unfold maxLen; omega) (by omega) (by have := hB.out.size; simp; omega) ?_; intro v' w3 hown3 hgrow3 _; have HO3 := hid hown3; have HG3 := hid hgrow3; clear hown3 hgrow3)
            rw [hzI.out] at HO3
            obtain ⟨n1, n2⟩ := own_next hO.out hB.out HO3.out HG3.out
            have N1 := hid n1; have N2 := hid n2; clear n1 n2 HO3 HG3
            obtain ⟨a3, k3, rfl⟩ := owns_ex N1.out
            go_wp2_with fail
            go_roundw
            case rel => exact ⟨s ++ [z], 0, _, by simp, rfl, by simp, by omega, by simp <;> omega, HN, N1, N2⟩
            case measure => simp [intOf] <;> omega
    · obtain rfl : s.length = n := by omega
      have hv := hid (hP.out.done HA.out.symm HL.out)
      go_wp2_with (go_at_call 102; refine (r1_trim _ _ s hP.out.sm (Row.of_owns hO.out)).mono ?_; rintro e w1 ⟨⟨v1, rfl, hv1⟩, rfl⟩)
      go_ret
      exact ⟨⟨v1, rfl, by rw [← hv.out]; exact hv1⟩, hB.out⟩
end Go.Proofs.YtpheklgnmbpobaaGreatDoor
namespace Go.Proofs.YtpheklgnmbpobaaGreatDoor
open Go.RowKit
set_option linter.unusedVariables false
set_option linter.unusedSimpArgs false
def PlKey (m1 m2 : Bool) (x y : Nat) (m : Bool) (s : Nat) : Prop :=
  (m1 = m2 ∧ m = m1 ∧ s = x + y) ∨ ((m1 == m2) = false ∧ x < y ∧ m = m2 ∧ s = y - x) ∨ ((m1 == m2) = false ∧ y ≤ x ∧ m = m1 ∧ s = x - y)
theorem limbs_add {a b p : Nat} (ha : (limbs a).length ≤ p) (hb : (limbs b).length ≤ p) : (limbs (a + b)).length ≤ p + 1 := by
  refine limbs_length_le.2 ?_
  have h1 := limbs_length_le.1 ha
  have h2 := limbs_length_le.1 hb
  rw [Nat.pow_succ]
  omega
theorem ord_ge {x y : Nat} (h : y ≤ x) : decide (ordN x y < 0) = false := by
  unfold ordN
  split
  · omega
  · split <;> simp
set_option maxRecDepth 100000 in
set_option maxHeartbeats 4000000 in
theorem r2_Plus_walk (w : World) (m1 m2 m : Bool) (N1 D1 N2 D2 : Value) (n1 d1 n2 d2 s : Nat) (hn1 : IsN .i64 w N1 n1) (hd1 : IsN .i64 w D1 d1) (hn2 : IsN .i64 w N2 n2) (hd2 : IsN .i64 w D2 d2)
    (l1 : (limbs n1).length ≤ 100000) (l2 : (limbs d1).length ≤ 100000) (l3 : (limbs n2).length ≤ 100000) (l4 : (limbs d2).length ≤ 100000) (p1 : 0 < d1) (p2 : 0 < d2) (key : PlKey m1 m2 (n1 * d2) (n2 * d1) m s) :
    Calls Tryz.prog 50 #[.agg #[.bool m1, N1, D1], .agg #[.bool m2, N2, D2]] w fun e w' => RetQ .i64 (qmk m s (d1 * d2)) e w' ∧ Below w.heap.size w w' := by
  have HN1 := hid hn1; have HD1 := hid hd1; have HN2 := hid hn2; have HD2 := hid hd2
  have L1 := hid (Nat.le_trans (limbs_mul l1 l4) (show 100000 + 100000 ≤ 1000000 by omega))
  have L2 := hid (Nat.le_trans (limbs_mul l3 l2) (show 100000 + 100000 ≤ 1000000 by omega))
  have L3 := hid (Nat.le_trans (limbs_mul l2 l4) (show 100000 + 100000 ≤ 1000000 by omega))
  have H1 := hid (Nat.le_trans l1 (show 100000 ≤ 1000000 by omega))
  have H2 := hid (Nat.le_trans l2 (show 100000 ≤ 1000000 by omega))
  have H3 := hid (Nat.le_trans l3 (show 100000 ≤ 1000000 by omega))
  have H4 := hid (Nat.le_trans l4 (show 100000 ≤ 1000000 by omega))
  have hD := hid (Nat.mul_pos p1 p2)
  have LS : Hid ((limbs s).length ≤ 1000000) := by
    have q1 := limbs_mul l1 l4
    have q2 := limbs_mul l3 l2
    have q3 := limbs_add q1 q2
    have q4 : (limbs s).length ≤ (limbs (n1 * d2 + n2 * d1)).length := limbs_length_mono (by rcases key with ⟨-, -, rfl⟩ | ⟨-, -, -, rfl⟩ | ⟨-, -, -, rfl⟩ <;> omega)
    show _ ≤ _
    omega
  clear l1 l2 l3 l4 p1 p2
  obtain ⟨a1, c1, rfl, _⟩ := hn1.openI
  obtain ⟨a2, c2, rfl, _⟩ := hd1.openI
  obtain ⟨a3, c3, rfl, _⟩ := hn2.openI
  obtain ⟨a4, c4, rfl, _⟩ := hd2.openI
  obtain ⟨k1, hk1⟩ : ∃ k, (limbs n1).length = k := ⟨_, rfl⟩
  obtain ⟨k2, hk2⟩ : ∃ k, (limbs d1).length = k := ⟨_, rfl⟩
  obtain ⟨k3, hk3⟩ : ∃ k, (limbs n2).length = k := ⟨_, rfl⟩
  obtain ⟨k4, hk4⟩ : ∃ k, (limbs d2).length = k := ⟨_, rfl⟩
  rw [hk1] at HN1 ⊢
  rw [hk2] at HD1 ⊢
  rw [hk3] at HN2 ⊢
  rw [hk4] at HD2 ⊢
  clear hn1 hd1 hn2 hd2 hk1 hk2 hk3 hk4
  obtain ⟨x, hx⟩ : ∃ x, n1 * d2 = x := ⟨_, rfl⟩
  obtain ⟨y, hy⟩ : ∃ y, n2 * d1 = y := ⟨_, rfl⟩
  obtain ⟨z, hz⟩ : ∃ z, d1 * d2 = z := ⟨_, rfl⟩
  rw [hx, hy] at key
  rw [hx] at L1
  rw [hy] at L2
  rw [hz] at hD L3 ⊢
  have HX := hid hx; have HY := hid hy; have HZ := hid hz
  clear hx hy hz
  unfold PlKey at key
  rcases key with ⟨rfl, rfl, rfl⟩ | ⟨hne, hlt, rfl, rfl⟩ | ⟨hne, hle, rfl, rfl⟩
  · go_enter Tryz.func50, Tryz.ntmps50
    go_wp2_with fail
    obtain ⟨W, hW⟩ : ∃ W, ((w.alloc (.cells #[.bool m, .slice a1 k1 c1, .slice a2 k2 c2] 75)).alloc (.cells #[.bool m, .slice a3 k3 c3, .slice a4 k4 c4] 75)).alloc (.cells #[.bool false, .slice none 0 0, .slice none 0 0] 75) = W := ⟨_, rfl⟩
    rw [hW]
    have X0 : Below w.heap.size w W := by rw [← hW]; exact (((Below.refl _ _).alloc (Nat.le_refl _) _).alloc (by simp) _).alloc (by simp; omega) _
    have Y0 : Blk W w.heap.size #[.bool m, .slice a1 k1 c1, .slice a2 k2 c2] 75 := by rw [← hW]; exact ((Blk.new w _ _).alloc _).alloc _
    have Y1 : Blk W (w.heap.size + 1) #[.bool m, .slice a3 k3 c3, .slice a4 k4 c4] 75 := by rw [← hW]; exact (Blk.made (w.alloc _) _ _ (by simp)).alloc _
    have Y2 : Blk W (w.heap.size + 1 + 1) #[.bool false, .slice none 0 0, .slice none 0 0] 75 := by rw [← hW]; exact Blk.made ((w.alloc _).alloc _) _ _ (by simp)
    have K : Hid (∀ w', Below W.heap.size W w' → w'.cell? ⟨w.heap.size, 0, none⟩ = some (.bool m) ∧ w'.cell? ⟨w.heap.size, 1, none⟩ = some (.slice a1 k1 c1) ∧ w'.cell? ⟨w.heap.size, 2, none⟩ = some (.slice a2 k2 c2) ∧ w'.cell? ⟨w.heap.size + 1, 0, none⟩ = some (.bool m) ∧ w'.cell? ⟨w.heap.size + 1, 1, none⟩ = some (.slice a3 k3 c3) ∧ w'.cell? ⟨w.heap.size + 1, 2, none⟩ = some (.slice a4 k4 c4)) := fun w' hb => ⟨(Y0.call hb).cell 0, (Y0.call hb).cell 1, (Y0.call hb).cell 2, (Y1.call hb).cell 0, (Y1.call hb).cell 1, (Y1.call hb).cell 2⟩
    have HY0 := hid Y0; have HY1 := hid Y1; have HY2 := hid Y2; have HX0 := hid X0
    obtain ⟨i0, i1, i2, i3, i4, i5⟩ := K W (Below.refl _ _)
    clear Y0 Y1 Y2 X0 hW
    have XN1 := hid (HN1.out.call HX0.out); have XD1 := hid (HD1.out.call HX0.out); have XN2 := hid (HN2.out.call HX0.out); have XD2 := hid (HD2.out.call HX0.out)
    go_region_held3 (fun w' => w'.cell? ⟨w.heap.size, 0, none⟩ = some (.bool m) ∧ w'.cell? ⟨w.heap.size, 1, none⟩ = some (.slice a1 k1 c1) ∧ w'.cell? ⟨w.heap.size, 2, none⟩ = some (.slice a2 k2 c2) ∧ w'.cell? ⟨w.heap.size + 1, 0, none⟩ = some (.bool m) ∧ w'.cell? ⟨w.heap.size + 1, 1, none⟩ = some (.slice a3 k3 c3) ∧ w'.cell? ⟨w.heap.size + 1, 2, none⟩ = some (.slice a4 k4 c4))
      (first
        | exact K.out _ (Below.refl _ _).drew
        | exact K.out _ bb2.out
        | exact K.out _ bb1.out)
      (first
        | (go_at_call_of 62 (Value.slice a1 k1 c1); refine (r1_Times _ _ _ n1 d2 (XN1.out.call (by first | exact bb2.out | exact (Below.refl _ _).drew)) (XD2.out.call (by first | exact bb2.out | exact (Below.refl _ _).drew)) H1.out H4.out).mono ?_; rintro e w1 ⟨⟨v1, rfl, hv1⟩, hb1⟩; have bb1 := hid (bnext (by first | exact bb2.out | exact (Below.refl _ _).drew) hb1))
        | (go_at_call_of 62 (Value.slice a3 k3 c3); refine (r1_Times _ _ _ n2 d1 (XN2.out.call (by first | exact bb1.out | exact (Below.refl _ _).drew)) (XD1.out.call (by first | exact bb1.out | exact (Below.refl _ _).drew)) H3.out H2.out).mono ?_; rintro e w2 ⟨⟨v2, rfl, hv2⟩, hb2⟩; have bb2 := hid (bnext (by first | exact bb1.out | exact (Below.refl _ _).drew) hb2)))
    have V2 := hid hv2; have V1 := hid (hv1.call hb2)
    rw [HX.out] at V1
    rw [HY.out] at V2
    clear hv1 hv2 hb1 hb2 i0 i1 i2 i3 i4 i5
    obtain ⟨i0, i1, i2, i3, i4, i5⟩ := K.out _ bb2.out
    go_wp2_with fail
    refine (r1_Times _ _ _ d1 d2 (XD1.out.call bb2.out) (XD2.out.call bb2.out) H2.out H4.out).mono ?_; rintro e w3 ⟨⟨v3, rfl, hv3⟩, hb3⟩
    have bb3 := hid (bnext bb2.out hb3)
    rw [HZ.out] at hv3
    have V3 := hid hv3
    have V1' := hid (V1.out.call hb3); have V2' := hid (V2.out.call hb3)
    clear hv3 hb3 i0 i1 i2 i3 i4 i5 V1 V2
    obtain ⟨i0, i1, i2, i3, i4, i5⟩ := K.out _ bb3.out
    obtain ⟨ja1, jc1, rfl, _⟩ := V1'.out.openI
    obtain ⟨ja2, jc2, rfl, _⟩ := V2'.out.openI
    obtain ⟨ja3, jc3, rfl, _⟩ := V3.out.openI
    obtain ⟨jk1, hj1⟩ : ∃ k, (limbs x).length = k := ⟨_, rfl⟩
    obtain ⟨jk2, hj2⟩ : ∃ k, (limbs y).length = k := ⟨_, rfl⟩
    obtain ⟨jk3, hj3⟩ : ∃ k, (limbs z).length = k := ⟨_, rfl⟩
    rw [hj1] at V1' ⊢
    rw [hj2] at V2' ⊢
    rw [hj3] at V3 ⊢
    clear hj1 hj2 hj3
    go_wp2_with fail
    have K2 : Hid (∀ w1 x y z, Below W.heap.size W w1 → ∀ w', ((w1.setCell ⟨w.heap.size + 1 + 1, 0, none⟩ x).setCell ⟨w.heap.size + 1 + 1, 1, none⟩ y).setCell ⟨w.heap.size + 1 + 1, 2, none⟩ z = w' → w'.cell? ⟨w.heap.size, 0, none⟩ = some (.bool m) ∧ w'.cell? ⟨w.heap.size, 1, none⟩ = some (.slice a1 k1 c1) ∧ w'.cell? ⟨w.heap.size, 2, none⟩ = some (.slice a2 k2 c2) ∧ w'.cell? ⟨w.heap.size + 1, 0, none⟩ = some (.bool m) ∧ w'.cell? ⟨w.heap.size + 1, 1, none⟩ = some (.slice a3 k3 c3) ∧ w'.cell? ⟨w.heap.size + 1, 2, none⟩ = some (.slice a4 k4 c4)) := by
      rintro w1 x y z hb _ rfl
      have Z0 := (((HY0.out.call hb).other (a := ⟨w.heap.size + 1 + 1, 0, none⟩) (by simp; omega) x).other (a := ⟨w.heap.size + 1 + 1, 1, none⟩) (by simp; omega) y).other (a := ⟨w.heap.size + 1 + 1, 2, none⟩) (by simp; omega) z
      have Z1 := (((HY1.out.call hb).other (a := ⟨w.heap.size + 1 + 1, 0, none⟩) (by simp) x).other (a := ⟨w.heap.size + 1 + 1, 1, none⟩) (by simp) y).other (a := ⟨w.heap.size + 1 + 1, 2, none⟩) (by simp) z
      exact ⟨Z0.cell 0, Z0.cell 1, Z0.cell 2, Z1.cell 0, Z1.cell 1, Z1.cell 2⟩
    go_region_held3 (fun w' => w'.cell? ⟨w.heap.size, 0, none⟩ = some (.bool m) ∧ w'.cell? ⟨w.heap.size, 1, none⟩ = some (.slice a1 k1 c1) ∧ w'.cell? ⟨w.heap.size, 2, none⟩ = some (.slice a2 k2 c2) ∧ w'.cell? ⟨w.heap.size + 1, 0, none⟩ = some (.bool m) ∧ w'.cell? ⟨w.heap.size + 1, 1, none⟩ = some (.slice a3 k3 c3) ∧ w'.cell? ⟨w.heap.size + 1, 2, none⟩ = some (.slice a4 k4 c4))
      (first
        | exact K.out _ (by first | exact bb3.out.drew | exact below_drewN bb3.out _)
        | exact K2.out _ _ _ _ bb6.out _ rfl
        | exact K.out _ bb6.out
        | exact K.out _ bb5.out)
      (first
        | (go_at_call 43; refine (r1_Plus _ _ _ x y (V1'.out.call (by first | exact (Below.refl _ _).drew | exact below_drewN (Below.refl _ _) _ | exact Below.refl _ _)) (V2'.out.call (by first | exact (Below.refl _ _).drew | exact below_drewN (Below.refl _ _) _ | exact Below.refl _ _)) L1.out L2.out).mono ?_; rintro e w5 ⟨⟨v5, rfl, hv5⟩, hb5⟩; have bb5 := hid (bnext (by first | exact bb3.out.drew | exact below_drewN bb3.out _ | exact bb3.out) hb5); have V5 := hid hv5; have Z5 := hid ((V3.out.call (Below.refl _ _).drew).call hb5))
        | (go_at_call 103; refine (r2_Reduce _ _ _ _ (x + y) z V5.out Z5.out hD.out LS.out L3.out).mono ?_; rintro e w6 ⟨⟨v6, rfl, hv6⟩, hb6⟩; obtain ⟨N6, D6, rfl, hN6, hD6⟩ := hv6.ex; have bb6 := hid (bnext bb5.out hb6); obtain ⟨a5, c5, rfl, _⟩ := hN6.openI; obtain ⟨a6, c6, rfl, _⟩ := hD6.openI; have HN6 := hid hN6; have HD6 := hid hD6; have Z := hid (HY2.out.call bb6.out); have t0 := Z.out.cell 0; have t1 := Z.out.cell 1; have t2 := Z.out.cell 2; have t3 := Z.out.free 0; have t4 := Z.out.free 1; have t5 := Z.out.free 2; clear hv6 hN6 hD6))
    go_wp2_with fail
    obtain ⟨s1, s2⟩ := set3 Z.out (decide ((qmk m (x + y) z).num < 0)) a5 a6 (limbs (qmk m (x + y) z).num.natAbs).length c5 (limbs (qmk m (x + y) z).den).length c6
    have f0 := s2.cell 0
    have f1 := s2.cell 1
    have f2 := s2.cell 2
    simp at f0 f1 f2
    refine bodyPost_ret (v := .agg #[.bool (decide ((qmk m (x + y) z).num < 0)), .slice a5 (limbs (qmk m (x + y) z).num.natAbs).length c5, .slice a6 (limbs (qmk m (x + y) z).den).length c6]) (by simp [results, Tryz.results50, go_sem, f0, f1, f2]) rfl ⟨⟨_, rfl, ⟨_, _, rfl, s1 _ _ _ HN6.out, s1 _ _ _ HD6.out⟩⟩, ?_⟩
    exact (((HX0.out.trans (bb6.out.mono (Nat.le_trans (Nat.le_refl _) HX0.out.size))).setCell (by simp; omega) _).setCell (by simp; omega) _).setCell (by simp; omega) _

  · have HLT := hid hlt; have HLE := hid (Nat.le_of_lt hlt)
    clear hlt
    go_enter Tryz.func50, Tryz.ntmps50
    go_wp2_with fail
    obtain ⟨W, hW⟩ : ∃ W, ((w.alloc (.cells #[.bool m1, .slice a1 k1 c1, .slice a2 k2 c2] 75)).alloc (.cells #[.bool m, .slice a3 k3 c3, .slice a4 k4 c4] 75)).alloc (.cells #[.bool false, .slice none 0 0, .slice none 0 0] 75) = W := ⟨_, rfl⟩
    rw [hW]
    have X0 : Below w.heap.size w W := by rw [← hW]; exact (((Below.refl _ _).alloc (Nat.le_refl _) _).alloc (by simp) _).alloc (by simp; omega) _
    have Y0 : Blk W w.heap.size #[.bool m1, .slice a1 k1 c1, .slice a2 k2 c2] 75 := by rw [← hW]; exact ((Blk.new w _ _).alloc _).alloc _
    have Y1 : Blk W (w.heap.size + 1) #[.bool m, .slice a3 k3 c3, .slice a4 k4 c4] 75 := by rw [← hW]; exact (Blk.made (w.alloc _) _ _ (by simp)).alloc _
    have Y2 : Blk W (w.heap.size + 1 + 1) #[.bool false, .slice none 0 0, .slice none 0 0] 75 := by rw [← hW]; exact Blk.made ((w.alloc _).alloc _) _ _ (by simp)
    have K : Hid (∀ w', Below W.heap.size W w' → w'.cell? ⟨w.heap.size, 0, none⟩ = some (.bool m1) ∧ w'.cell? ⟨w.heap.size, 1, none⟩ = some (.slice a1 k1 c1) ∧ w'.cell? ⟨w.heap.size, 2, none⟩ = some (.slice a2 k2 c2) ∧ w'.cell? ⟨w.heap.size + 1, 0, none⟩ = some (.bool m) ∧ w'.cell? ⟨w.heap.size + 1, 1, none⟩ = some (.slice a3 k3 c3) ∧ w'.cell? ⟨w.heap.size + 1, 2, none⟩ = some (.slice a4 k4 c4)) := fun w' hb => ⟨(Y0.call hb).cell 0, (Y0.call hb).cell 1, (Y0.call hb).cell 2, (Y1.call hb).cell 0, (Y1.call hb).cell 1, (Y1.call hb).cell 2⟩
    have HY0 := hid Y0; have HY1 := hid Y1; have HY2 := hid Y2; have HX0 := hid X0
    obtain ⟨i0, i1, i2, i3, i4, i5⟩ := K W (Below.refl _ _)
    clear Y0 Y1 Y2 X0 hW
    have XN1 := hid (HN1.out.call HX0.out); have XD1 := hid (HD1.out.call HX0.out); have XN2 := hid (HN2.out.call HX0.out); have XD2 := hid (HD2.out.call HX0.out)
    go_region_held3 (fun w' => w'.cell? ⟨w.heap.size, 0, none⟩ = some (.bool m1) ∧ w'.cell? ⟨w.heap.size, 1, none⟩ = some (.slice a1 k1 c1) ∧ w'.cell? ⟨w.heap.size, 2, none⟩ = some (.slice a2 k2 c2) ∧ w'.cell? ⟨w.heap.size + 1, 0, none⟩ = some (.bool m) ∧ w'.cell? ⟨w.heap.size + 1, 1, none⟩ = some (.slice a3 k3 c3) ∧ w'.cell? ⟨w.heap.size + 1, 2, none⟩ = some (.slice a4 k4 c4))
      (first
        | exact K.out _ (Below.refl _ _).drew
        | exact K.out _ bb2.out
        | exact K.out _ bb1.out)
      (first
        | (go_at_call_of 62 (Value.slice a1 k1 c1); refine (r1_Times _ _ _ n1 d2 (XN1.out.call (by first | exact bb2.out | exact (Below.refl _ _).drew)) (XD2.out.call (by first | exact bb2.out | exact (Below.refl _ _).drew)) H1.out H4.out).mono ?_; rintro e w1 ⟨⟨v1, rfl, hv1⟩, hb1⟩; have bb1 := hid (bnext (by first | exact bb2.out | exact (Below.refl _ _).drew) hb1))
        | (go_at_call_of 62 (Value.slice a3 k3 c3); refine (r1_Times _ _ _ n2 d1 (XN2.out.call (by first | exact bb1.out | exact (Below.refl _ _).drew)) (XD1.out.call (by first | exact bb1.out | exact (Below.refl _ _).drew)) H3.out H2.out).mono ?_; rintro e w2 ⟨⟨v2, rfl, hv2⟩, hb2⟩; have bb2 := hid (bnext (by first | exact bb1.out | exact (Below.refl _ _).drew) hb2)))
    have V2 := hid hv2; have V1 := hid (hv1.call hb2)
    rw [HX.out] at V1
    rw [HY.out] at V2
    clear hv1 hv2 hb1 hb2 i0 i1 i2 i3 i4 i5
    obtain ⟨i0, i1, i2, i3, i4, i5⟩ := K.out _ bb2.out
    go_wp2_with fail
    refine (r1_Times _ _ _ d1 d2 (XD1.out.call bb2.out) (XD2.out.call bb2.out) H2.out H4.out).mono ?_; rintro e w3 ⟨⟨v3, rfl, hv3⟩, hb3⟩
    have bb3 := hid (bnext bb2.out hb3)
    rw [HZ.out] at hv3
    have V3 := hid hv3
    have V1' := hid (V1.out.call hb3); have V2' := hid (V2.out.call hb3)
    clear hv3 hb3 i0 i1 i2 i3 i4 i5 V1 V2
    obtain ⟨i0, i1, i2, i3, i4, i5⟩ := K.out _ bb3.out
    obtain ⟨ja1, jc1, rfl, _⟩ := V1'.out.openI
    obtain ⟨ja2, jc2, rfl, _⟩ := V2'.out.openI
    obtain ⟨ja3, jc3, rfl, _⟩ := V3.out.openI
    obtain ⟨jk1, hj1⟩ : ∃ k, (limbs x).length = k := ⟨_, rfl⟩
    obtain ⟨jk2, hj2⟩ : ∃ k, (limbs y).length = k := ⟨_, rfl⟩
    obtain ⟨jk3, hj3⟩ : ∃ k, (limbs z).length = k := ⟨_, rfl⟩
    rw [hj1] at V1' ⊢
    rw [hj2] at V2' ⊢
    rw [hj3] at V3 ⊢
    clear hj1 hj2 hj3
    go_wp2_with fail
    refine (r1_Order _ _ _ x y V1'.out V2'.out).mono ?_; rintro e w4 ⟨rfl, hb4⟩
    have bb4 := hid (bnext bb3.out hb4)
    have W1 := hid (V1'.out.call hb4); have W2 := hid (V2'.out.call hb4); have W3 := hid (V3.out.call hb4)
    clear hb4 i0 i1 i2 i3 i4 i5
    obtain ⟨i0, i1, i2, i3, i4, i5⟩ := K.out _ bb4.out
    rw [ordN_lt HLT.out]
    go_wp2_with fail
    have K2 : Hid (∀ w1 x y z, Below W.heap.size W w1 → ∀ w', ((w1.setCell ⟨w.heap.size + 1 + 1, 0, none⟩ x).setCell ⟨w.heap.size + 1 + 1, 1, none⟩ y).setCell ⟨w.heap.size + 1 + 1, 2, none⟩ z = w' → w'.cell? ⟨w.heap.size, 0, none⟩ = some (.bool m1) ∧ w'.cell? ⟨w.heap.size, 1, none⟩ = some (.slice a1 k1 c1) ∧ w'.cell? ⟨w.heap.size, 2, none⟩ = some (.slice a2 k2 c2) ∧ w'.cell? ⟨w.heap.size + 1, 0, none⟩ = some (.bool m) ∧ w'.cell? ⟨w.heap.size + 1, 1, none⟩ = some (.slice a3 k3 c3) ∧ w'.cell? ⟨w.heap.size + 1, 2, none⟩ = some (.slice a4 k4 c4)) := by
      rintro w1 x y z hb _ rfl
      have Z0 := (((HY0.out.call hb).other (a := ⟨w.heap.size + 1 + 1, 0, none⟩) (by simp; omega) x).other (a := ⟨w.heap.size + 1 + 1, 1, none⟩) (by simp; omega) y).other (a := ⟨w.heap.size + 1 + 1, 2, none⟩) (by simp; omega) z
      have Z1 := (((HY1.out.call hb).other (a := ⟨w.heap.size + 1 + 1, 0, none⟩) (by simp) x).other (a := ⟨w.heap.size + 1 + 1, 1, none⟩) (by simp) y).other (a := ⟨w.heap.size + 1 + 1, 2, none⟩) (by simp) z
      exact ⟨Z0.cell 0, Z0.cell 1, Z0.cell 2, Z1.cell 0, Z1.cell 1, Z1.cell 2⟩
    go_region_held3 (fun w' => w'.cell? ⟨w.heap.size, 0, none⟩ = some (.bool m1) ∧ w'.cell? ⟨w.heap.size, 1, none⟩ = some (.slice a1 k1 c1) ∧ w'.cell? ⟨w.heap.size, 2, none⟩ = some (.slice a2 k2 c2) ∧ w'.cell? ⟨w.heap.size + 1, 0, none⟩ = some (.bool m) ∧ w'.cell? ⟨w.heap.size + 1, 1, none⟩ = some (.slice a3 k3 c3) ∧ w'.cell? ⟨w.heap.size + 1, 2, none⟩ = some (.slice a4 k4 c4))
      (first
        | exact K.out _ (by first | exact bb4.out.drew | exact below_drewN bb4.out _)
        | exact K2.out _ _ _ _ bb6.out _ rfl
        | exact K.out _ bb6.out
        | exact K.out _ bb5.out)
      (first
        | (go_at_call 104; refine (r1_Minus _ _ _ y x (W2.out.call (by first | exact (Below.refl _ _).drew | exact below_drewN (Below.refl _ _) _ | exact Below.refl _ _)) (W1.out.call (by first | exact (Below.refl _ _).drew | exact below_drewN (Below.refl _ _) _ | exact Below.refl _ _)) HLE.out L2.out).mono ?_; rintro e w5 ⟨⟨v5, rfl, hv5⟩, hb5⟩; have bb5 := hid (bnext (by first | exact bb4.out.drew | exact below_drewN bb4.out _ | exact bb4.out) hb5); have V5 := hid hv5; have Z5 := hid ((W3.out.call (Below.refl _ _).drew).call hb5))
        | (go_at_call 103; refine (r2_Reduce _ _ _ _ (y - x) z V5.out Z5.out hD.out LS.out L3.out).mono ?_; rintro e w6 ⟨⟨v6, rfl, hv6⟩, hb6⟩; obtain ⟨N6, D6, rfl, hN6, hD6⟩ := hv6.ex; have bb6 := hid (bnext bb5.out hb6); obtain ⟨a5, c5, rfl, _⟩ := hN6.openI; obtain ⟨a6, c6, rfl, _⟩ := hD6.openI; have HN6 := hid hN6; have HD6 := hid hD6; have Z := hid (HY2.out.call bb6.out); have t0 := Z.out.cell 0; have t1 := Z.out.cell 1; have t2 := Z.out.cell 2; have t3 := Z.out.free 0; have t4 := Z.out.free 1; have t5 := Z.out.free 2; clear hv6 hN6 hD6))
    go_wp2_with fail
    obtain ⟨s1, s2⟩ := set3 Z.out (decide ((qmk m (y - x) z).num < 0)) a5 a6 (limbs (qmk m (y - x) z).num.natAbs).length c5 (limbs (qmk m (y - x) z).den).length c6
    have f0 := s2.cell 0
    have f1 := s2.cell 1
    have f2 := s2.cell 2
    simp at f0 f1 f2
    refine bodyPost_ret (v := .agg #[.bool (decide ((qmk m (y - x) z).num < 0)), .slice a5 (limbs (qmk m (y - x) z).num.natAbs).length c5, .slice a6 (limbs (qmk m (y - x) z).den).length c6]) (by simp [results, Tryz.results50, go_sem, f0, f1, f2]) rfl ⟨⟨_, rfl, ⟨_, _, rfl, s1 _ _ _ HN6.out, s1 _ _ _ HD6.out⟩⟩, ?_⟩
    exact (((HX0.out.trans (bb6.out.mono (Nat.le_trans (Nat.le_refl _) HX0.out.size))).setCell (by simp; omega) _).setCell (by simp; omega) _).setCell (by simp; omega) _
  · have HLE := hid hle
    clear hle
    go_enter Tryz.func50, Tryz.ntmps50
    go_wp2_with fail
    obtain ⟨W, hW⟩ : ∃ W, ((w.alloc (.cells #[.bool m, .slice a1 k1 c1, .slice a2 k2 c2] 75)).alloc (.cells #[.bool m2, .slice a3 k3 c3, .slice a4 k4 c4] 75)).alloc (.cells #[.bool false, .slice none 0 0, .slice none 0 0] 75) = W := ⟨_, rfl⟩
    rw [hW]
    have X0 : Below w.heap.size w W := by rw [← hW]; exact (((Below.refl _ _).alloc (Nat.le_refl _) _).alloc (by simp) _).alloc (by simp; omega) _
    have Y0 : Blk W w.heap.size #[.bool m, .slice a1 k1 c1, .slice a2 k2 c2] 75 := by rw [← hW]; exact ((Blk.new w _ _).alloc _).alloc _
    have Y1 : Blk W (w.heap.size + 1) #[.bool m2, .slice a3 k3 c3, .slice a4 k4 c4] 75 := by rw [← hW]; exact (Blk.made (w.alloc _) _ _ (by simp)).alloc _
    have Y2 : Blk W (w.heap.size + 1 + 1) #[.bool false, .slice none 0 0, .slice none 0 0] 75 := by rw [← hW]; exact Blk.made ((w.alloc _).alloc _) _ _ (by simp)
    have K : Hid (∀ w', Below W.heap.size W w' → w'.cell? ⟨w.heap.size, 0, none⟩ = some (.bool m) ∧ w'.cell? ⟨w.heap.size, 1, none⟩ = some (.slice a1 k1 c1) ∧ w'.cell? ⟨w.heap.size, 2, none⟩ = some (.slice a2 k2 c2) ∧ w'.cell? ⟨w.heap.size + 1, 0, none⟩ = some (.bool m2) ∧ w'.cell? ⟨w.heap.size + 1, 1, none⟩ = some (.slice a3 k3 c3) ∧ w'.cell? ⟨w.heap.size + 1, 2, none⟩ = some (.slice a4 k4 c4)) := fun w' hb => ⟨(Y0.call hb).cell 0, (Y0.call hb).cell 1, (Y0.call hb).cell 2, (Y1.call hb).cell 0, (Y1.call hb).cell 1, (Y1.call hb).cell 2⟩
    have HY0 := hid Y0; have HY1 := hid Y1; have HY2 := hid Y2; have HX0 := hid X0
    obtain ⟨i0, i1, i2, i3, i4, i5⟩ := K W (Below.refl _ _)
    clear Y0 Y1 Y2 X0 hW
    have XN1 := hid (HN1.out.call HX0.out); have XD1 := hid (HD1.out.call HX0.out); have XN2 := hid (HN2.out.call HX0.out); have XD2 := hid (HD2.out.call HX0.out)
    go_region_held3 (fun w' => w'.cell? ⟨w.heap.size, 0, none⟩ = some (.bool m) ∧ w'.cell? ⟨w.heap.size, 1, none⟩ = some (.slice a1 k1 c1) ∧ w'.cell? ⟨w.heap.size, 2, none⟩ = some (.slice a2 k2 c2) ∧ w'.cell? ⟨w.heap.size + 1, 0, none⟩ = some (.bool m2) ∧ w'.cell? ⟨w.heap.size + 1, 1, none⟩ = some (.slice a3 k3 c3) ∧ w'.cell? ⟨w.heap.size + 1, 2, none⟩ = some (.slice a4 k4 c4))
      (first
        | exact K.out _ (Below.refl _ _).drew
        | exact K.out _ bb2.out
        | exact K.out _ bb1.out)
      (first
        | (go_at_call_of 62 (Value.slice a1 k1 c1); refine (r1_Times _ _ _ n1 d2 (XN1.out.call (by first | exact bb2.out | exact (Below.refl _ _).drew)) (XD2.out.call (by first | exact bb2.out | exact (Below.refl _ _).drew)) H1.out H4.out).mono ?_; rintro e w1 ⟨⟨v1, rfl, hv1⟩, hb1⟩; have bb1 := hid (bnext (by first | exact bb2.out | exact (Below.refl _ _).drew) hb1))
        | (go_at_call_of 62 (Value.slice a3 k3 c3); refine (r1_Times _ _ _ n2 d1 (XN2.out.call (by first | exact bb1.out | exact (Below.refl _ _).drew)) (XD1.out.call (by first | exact bb1.out | exact (Below.refl _ _).drew)) H3.out H2.out).mono ?_; rintro e w2 ⟨⟨v2, rfl, hv2⟩, hb2⟩; have bb2 := hid (bnext (by first | exact bb1.out | exact (Below.refl _ _).drew) hb2)))
    have V2 := hid hv2; have V1 := hid (hv1.call hb2)
    rw [HX.out] at V1
    rw [HY.out] at V2
    clear hv1 hv2 hb1 hb2 i0 i1 i2 i3 i4 i5
    obtain ⟨i0, i1, i2, i3, i4, i5⟩ := K.out _ bb2.out
    go_wp2_with fail
    refine (r1_Times _ _ _ d1 d2 (XD1.out.call bb2.out) (XD2.out.call bb2.out) H2.out H4.out).mono ?_; rintro e w3 ⟨⟨v3, rfl, hv3⟩, hb3⟩
    have bb3 := hid (bnext bb2.out hb3)
    rw [HZ.out] at hv3
    have V3 := hid hv3
    have V1' := hid (V1.out.call hb3); have V2' := hid (V2.out.call hb3)
    clear hv3 hb3 i0 i1 i2 i3 i4 i5 V1 V2
    obtain ⟨i0, i1, i2, i3, i4, i5⟩ := K.out _ bb3.out
    obtain ⟨ja1, jc1, rfl, _⟩ := V1'.out.openI
    obtain ⟨ja2, jc2, rfl, _⟩ := V2'.out.openI
    obtain ⟨ja3, jc3, rfl, _⟩ := V3.out.openI
    obtain ⟨jk1, hj1⟩ : ∃ k, (limbs x).length = k := ⟨_, rfl⟩
    obtain ⟨jk2, hj2⟩ : ∃ k, (limbs y).length = k := ⟨_, rfl⟩
    obtain ⟨jk3, hj3⟩ : ∃ k, (limbs z).length = k := ⟨_, rfl⟩
    rw [hj1] at V1' ⊢
    rw [hj2] at V2' ⊢
    rw [hj3] at V3 ⊢
    clear hj1 hj2 hj3
    go_wp2_with fail
    refine (r1_Order _ _ _ x y V1'.out V2'.out).mono ?_; rintro e w4 ⟨rfl, hb4⟩
    have bb4 := hid (bnext bb3.out hb4)
    have W1 := hid (V1'.out.call hb4); have W2 := hid (V2'.out.call hb4); have W3 := hid (V3.out.call hb4)
    clear hb4 i0 i1 i2 i3 i4 i5
    obtain ⟨i0, i1, i2, i3, i4, i5⟩ := K.out _ bb4.out
    obtain ⟨t, ht⟩ : ∃ t, ordN x y = t := ⟨_, rfl⟩
    have q7 : decide (t < 0) = false := by rw [← ht]; exact ord_ge HLE.out
    rw [ht]
    clear ht
    go_wp2_with fail
    have K2 : Hid (∀ w1 x y z, Below W.heap.size W w1 → ∀ w', ((w1.setCell ⟨w.heap.size + 1 + 1, 0, none⟩ x).setCell ⟨w.heap.size + 1 + 1, 1, none⟩ y).setCell ⟨w.heap.size + 1 + 1, 2, none⟩ z = w' → w'.cell? ⟨w.heap.size, 0, none⟩ = some (.bool m) ∧ w'.cell? ⟨w.heap.size, 1, none⟩ = some (.slice a1 k1 c1) ∧ w'.cell? ⟨w.heap.size, 2, none⟩ = some (.slice a2 k2 c2) ∧ w'.cell? ⟨w.heap.size + 1, 0, none⟩ = some (.bool m2) ∧ w'.cell? ⟨w.heap.size + 1, 1, none⟩ = some (.slice a3 k3 c3) ∧ w'.cell? ⟨w.heap.size + 1, 2, none⟩ = some (.slice a4 k4 c4)) := by
      rintro w1 x y z hb _ rfl
      have Z0 := (((HY0.out.call hb).other (a := ⟨w.heap.size + 1 + 1, 0, none⟩) (by simp; omega) x).other (a := ⟨w.heap.size + 1 + 1, 1, none⟩) (by simp; omega) y).other (a := ⟨w.heap.size + 1 + 1, 2, none⟩) (by simp; omega) z
      have Z1 := (((HY1.out.call hb).other (a := ⟨w.heap.size + 1 + 1, 0, none⟩) (by simp) x).other (a := ⟨w.heap.size + 1 + 1, 1, none⟩) (by simp) y).other (a := ⟨w.heap.size + 1 + 1, 2, none⟩) (by simp) z
      exact ⟨Z0.cell 0, Z0.cell 1, Z0.cell 2, Z1.cell 0, Z1.cell 1, Z1.cell 2⟩
    go_region_held3 (fun w' => w'.cell? ⟨w.heap.size, 0, none⟩ = some (.bool m) ∧ w'.cell? ⟨w.heap.size, 1, none⟩ = some (.slice a1 k1 c1) ∧ w'.cell? ⟨w.heap.size, 2, none⟩ = some (.slice a2 k2 c2) ∧ w'.cell? ⟨w.heap.size + 1, 0, none⟩ = some (.bool m2) ∧ w'.cell? ⟨w.heap.size + 1, 1, none⟩ = some (.slice a3 k3 c3) ∧ w'.cell? ⟨w.heap.size + 1, 2, none⟩ = some (.slice a4 k4 c4))
      (first
        | exact K.out _ (by first | exact bb4.out.drew | exact below_drewN bb4.out _)
        | exact K2.out _ _ _ _ bb6.out _ rfl
        | exact K.out _ bb6.out
        | exact K.out _ bb5.out)
      (first
        | (go_at_call 104; refine (r1_Minus _ _ _ x y (W1.out.call (by first | exact (Below.refl _ _).drew | exact below_drewN (Below.refl _ _) _ | exact Below.refl _ _)) (W2.out.call (by first | exact (Below.refl _ _).drew | exact below_drewN (Below.refl _ _) _ | exact Below.refl _ _)) HLE.out L1.out).mono ?_; rintro e w5 ⟨⟨v5, rfl, hv5⟩, hb5⟩; have bb5 := hid (bnext (by first | exact bb4.out.drew | exact below_drewN bb4.out _ | exact bb4.out) hb5); have V5 := hid hv5; have Z5 := hid ((W3.out.call (Below.refl _ _).drew).call hb5))
        | (go_at_call 103; refine (r2_Reduce _ _ _ _ (x - y) z V5.out Z5.out hD.out LS.out L3.out).mono ?_; rintro e w6 ⟨⟨v6, rfl, hv6⟩, hb6⟩; obtain ⟨N6, D6, rfl, hN6, hD6⟩ := hv6.ex; have bb6 := hid (bnext bb5.out hb6); obtain ⟨a5, c5, rfl, _⟩ := hN6.openI; obtain ⟨a6, c6, rfl, _⟩ := hD6.openI; have HN6 := hid hN6; have HD6 := hid hD6; have Z := hid (HY2.out.call bb6.out); have t0 := Z.out.cell 0; have t1 := Z.out.cell 1; have t2 := Z.out.cell 2; have t3 := Z.out.free 0; have t4 := Z.out.free 1; have t5 := Z.out.free 2; clear hv6 hN6 hD6))
    go_wp2_with fail
    obtain ⟨s1, s2⟩ := set3 Z.out (decide ((qmk m (x - y) z).num < 0)) a5 a6 (limbs (qmk m (x - y) z).num.natAbs).length c5 (limbs (qmk m (x - y) z).den).length c6
    have f0 := s2.cell 0
    have f1 := s2.cell 1
    have f2 := s2.cell 2
    simp at f0 f1 f2
    refine bodyPost_ret (v := .agg #[.bool (decide ((qmk m (x - y) z).num < 0)), .slice a5 (limbs (qmk m (x - y) z).num.natAbs).length c5, .slice a6 (limbs (qmk m (x - y) z).den).length c6]) (by simp [results, Tryz.results50, go_sem, f0, f1, f2]) rfl ⟨⟨_, rfl, ⟨_, _, rfl, s1 _ _ _ HN6.out, s1 _ _ _ HD6.out⟩⟩, ?_⟩
    exact (((HX0.out.trans (bb6.out.mono (Nat.le_trans (Nat.le_refl _) HX0.out.size))).setCell (by simp; omega) _).setCell (by simp; omega) _).setCell (by simp; omega) _
theorem r2_Plus (w : World) (v u : Value) (p q : Rat) (hp : IsQ .i64 w v p) (hq : IsQ .i64 w u q)
    (h1 : (limbs p.num.natAbs).length ≤ 100000) (h2 : (limbs p.den).length ≤ 100000) (h3 : (limbs q.num.natAbs).length ≤ 100000) (h4 : (limbs q.den).length ≤ 100000) :
    Calls Tryz.prog 50 #[v, u] w fun e w' => RetQ .i64 (p + q) e w' ∧ Below w.heap.size w w' := by
  obtain ⟨N1, D1, rfl, hn1, hd1⟩ := hp.ex
  obtain ⟨N2, D2, rfl, hn2, hd2⟩ := hq.ex
  have he := q_add p q
  have hw := fun m s key => r2_Plus_walk w (decide (p.num < 0)) (decide (q.num < 0)) m N1 D1 N2 D2 _ _ _ _ s hn1 hd1 hn2 hd2 h1 h2 h3 h4 p.den_pos q.den_pos key
  rw [he]
  generalize decide (p.num < 0) = m1 at *
  generalize decide (q.num < 0) = m2 at *
  by_cases hm : m1 = m2
  · subst hm
    rw [sgn_same]
    exact hw m1 _ (.inl ⟨rfl, rfl, rfl⟩)
  · have hm' : (m1 == m2) = false := by simpa using hm
    rcases Nat.lt_or_ge (p.num.natAbs * q.den) (q.num.natAbs * p.den) with hl | hl
    · rw [sgn_less hm hl]
      exact hw m2 _ (.inr (.inl ⟨hm', hl, rfl, rfl⟩))
    · rw [sgn_more hm hl]
      exact hw m1 _ (.inr (.inr ⟨hm', hl, rfl, rfl⟩))
end Go.Proofs.YtpheklgnmbpobaaGreatDoor
namespace Go.Proofs.YtpheklgnmbpobaaGreatDoor
open Go.RowKit
set_option linter.unusedVariables false
set_option maxHeartbeats 2000000 in
theorem r2_Times (w : World) (v u : Value) (p q : Rat) (hp : IsQ .i64 w v p) (hq : IsQ .i64 w u q)
    (h1 : (limbs p.num.natAbs).length ≤ 100000) (h2 : (limbs p.den).length ≤ 100000) (h3 : (limbs q.num.natAbs).length ≤ 100000) (h4 : (limbs q.den).length ≤ 100000) :
    Calls Tryz.prog 56 #[v, u] w fun e w' => RetQ .i64 (p * q) e w' ∧ Below w.heap.size w w' := by
  have HQ := hid (qmk_mul p q)
  rw [← HQ.out]
  have hD := hid (Nat.mul_pos p.den_pos q.den_pos)
  obtain ⟨N1, D1, rfl, hn1, hd1⟩ := hp.ex
  obtain ⟨N2, D2, rfl, hn2, hd2⟩ := hq.ex
  clear hp hq HQ
  generalize decide (p.num < 0) = m1 at *
  generalize decide (q.num < 0) = m2 at *
  generalize p.num.natAbs = n1 at *
  generalize q.num.natAbs = n2 at *
  generalize p.den = d1 at *
  generalize q.den = d2 at *
  have HN1 := hid hn1; have HD1 := hid hd1; have HN2 := hid hn2; have HD2 := hid hd2
  have L1 := hid (Nat.le_trans (limbs_mul h1 h3) (show 100000 + 100000 ≤ 1000000 by omega))
  have L2 := hid (Nat.le_trans (limbs_mul h2 h4) (show 100000 + 100000 ≤ 1000000 by omega))
  have H1 := hid (Nat.le_trans h1 (show 100000 ≤ 1000000 by omega))
  have H2 := hid (Nat.le_trans h2 (show 100000 ≤ 1000000 by omega))
  have H3 := hid (Nat.le_trans h3 (show 100000 ≤ 1000000 by omega))
  have H4 := hid (Nat.le_trans h4 (show 100000 ≤ 1000000 by omega))
  clear h1 h2 h3 h4
  obtain ⟨a1, c1, rfl, _⟩ := hn1.openI
  obtain ⟨a2, c2, rfl, _⟩ := hd1.openI
  obtain ⟨a3, c3, rfl, _⟩ := hn2.openI
  obtain ⟨a4, c4, rfl, _⟩ := hd2.openI
  clear hn1 hd1 hn2 hd2
  go_enter Tryz.func56, Tryz.ntmps56
  go_wp2_with fail
  obtain ⟨W, hW⟩ : ∃ W, ((w.alloc (.cells #[.bool m1, .slice a1 (limbs n1).length c1, .slice a2 (limbs d1).length c2] 75)).alloc (.cells #[.bool m2, .slice a3 (limbs n2).length c3, .slice a4 (limbs d2).length c4] 75)).alloc (.cells #[.bool false, .slice none 0 0, .slice none 0 0] 75) = W := ⟨_, rfl⟩
  rw [hW]
  have X0 : Below w.heap.size w W := by rw [← hW]; exact (((Below.refl _ _).alloc (Nat.le_refl _) _).alloc (by simp) _).alloc (by simp; omega) _
  have Y0 : Blk W w.heap.size #[.bool m1, .slice a1 (limbs n1).length c1, .slice a2 (limbs d1).length c2] 75 := by rw [← hW]; exact ((Blk.new w _ _).alloc _).alloc _
  have Y1 : Blk W (w.heap.size + 1) #[.bool m2, .slice a3 (limbs n2).length c3, .slice a4 (limbs d2).length c4] 75 := by rw [← hW]; exact (Blk.made (w.alloc _) _ _ (by simp)).alloc _
  have Y2 : Blk W (w.heap.size + 1 + 1) #[.bool false, .slice none 0 0, .slice none 0 0] 75 := by rw [← hW]; exact Blk.made ((w.alloc _).alloc _) _ _ (by simp)
  have K0 : ∀ w', Blk w' w.heap.size #[.bool m1, .slice a1 (limbs n1).length c1, .slice a2 (limbs d1).length c2] 75 → Blk w' (w.heap.size + 1) #[.bool m2, .slice a3 (limbs n2).length c3, .slice a4 (limbs d2).length c4] 75 →
      w'.cell? ⟨w.heap.size, 0, none⟩ = some (.bool m1) ∧ w'.cell? ⟨w.heap.size, 1, none⟩ = some (.slice a1 (limbs n1).length c1) ∧ w'.cell? ⟨w.heap.size, 2, none⟩ = some (.slice a2 (limbs d1).length c2) ∧
      w'.cell? ⟨w.heap.size + 1, 0, none⟩ = some (.bool m2) ∧ w'.cell? ⟨w.heap.size + 1, 1, none⟩ = some (.slice a3 (limbs n2).length c3) ∧ w'.cell? ⟨w.heap.size + 1, 2, none⟩ = some (.slice a4 (limbs d2).length c4) :=
    fun w' y0 y1 => ⟨y0.cell 0, y0.cell 1, y0.cell 2, y1.cell 0, y1.cell 1, y1.cell 2⟩
  have K : Hid (∀ w', Below W.heap.size W w' → w'.cell? ⟨w.heap.size, 0, none⟩ = some (.bool m1) ∧ w'.cell? ⟨w.heap.size, 1, none⟩ = some (.slice a1 (limbs n1).length c1) ∧ w'.cell? ⟨w.heap.size, 2, none⟩ = some (.slice a2 (limbs d1).length c2) ∧
      w'.cell? ⟨w.heap.size + 1, 0, none⟩ = some (.bool m2) ∧ w'.cell? ⟨w.heap.size + 1, 1, none⟩ = some (.slice a3 (limbs n2).length c3) ∧ w'.cell? ⟨w.heap.size + 1, 2, none⟩ = some (.slice a4 (limbs d2).length c4)) := fun w' hb => K0 w' (Y0.call hb) (Y1.call hb)
  have K2 : Hid (∀ w1 x y z, Below W.heap.size W w1 → ∀ w', ((w1.setCell ⟨w.heap.size + 1 + 1, 0, none⟩ x).setCell ⟨w.heap.size + 1 + 1, 1, none⟩ y).setCell ⟨w.heap.size + 1 + 1, 2, none⟩ z = w' → w'.cell? ⟨w.heap.size, 0, none⟩ = some (.bool m1) ∧ w'.cell? ⟨w.heap.size, 1, none⟩ = some (.slice a1 (limbs n1).length c1) ∧ w'.cell? ⟨w.heap.size, 2, none⟩ = some (.slice a2 (limbs d1).length c2) ∧
      w'.cell? ⟨w.heap.size + 1, 0, none⟩ = some (.bool m2) ∧ w'.cell? ⟨w.heap.size + 1, 1, none⟩ = some (.slice a3 (limbs n2).length c3) ∧ w'.cell? ⟨w.heap.size + 1, 2, none⟩ = some (.slice a4 (limbs d2).length c4)) := by
    rintro w1 x y z hb _ rfl
    exact K0 _ ((((Y0.call hb).other (by simp; omega) _).other (by simp; omega) _).other (by simp; omega) _) ((((Y1.call hb).other (by simp) _).other (by simp) _).other (by simp) _)
  have HY2 := hid Y2; have HX0 := hid X0
  obtain ⟨k0, k1, k2, k3, k4, k5⟩ := K W (Below.refl _ _)
  clear K0
  clear Y0 Y1 Y2 X0 hW
  have XN1 := hid (HN1.out.call HX0.out); have XD1 := hid (HD1.out.call HX0.out); have XN2 := hid (HN2.out.call HX0.out); have XD2 := hid (HD2.out.call HX0.out)
  go_region_held3 (fun w' => w'.cell? ⟨w.heap.size, 0, none⟩ = some (.bool m1) ∧ w'.cell? ⟨w.heap.size, 1, none⟩ = some (.slice a1 (limbs n1).length c1) ∧ w'.cell? ⟨w.heap.size, 2, none⟩ = some (.slice a2 (limbs d1).length c2) ∧
      w'.cell? ⟨w.heap.size + 1, 0, none⟩ = some (.bool m2) ∧ w'.cell? ⟨w.heap.size + 1, 1, none⟩ = some (.slice a3 (limbs n2).length c3) ∧ w'.cell? ⟨w.heap.size + 1, 2, none⟩ = some (.slice a4 (limbs d2).length c4))
    (first
      | exact K.out _ (Below.refl _ _).drew
      | exact K2.out _ _ _ _ B3.out _ rfl
      | exact K.out _ B3.out
      | exact K.out _ B2.out
      | exact K.out _ B1.out)
    (first
      | (go_at_call_of 62 (Value.slice a1 (limbs n1).length c1); refine (r1_Times _ _ _ n1 n2 (XN1.out.call (by first | exact B2.out | exact (Below.refl _ _).drew)) (XN2.out.call (by first | exact B2.out | exact (Below.refl _ _).drew)) H1.out H3.out).mono ?_; rintro e w1 ⟨⟨v1, rfl, hv1⟩, hb1⟩; have B1 := hid (bnext (by first | exact B2.out | exact (Below.refl _ _).drew) hb1))
      | (go_at_call_of 62 (Value.slice a2 (limbs d1).length c2); refine (r1_Times _ _ _ d1 d2 (XD1.out.call (by first | exact B1.out | exact (Below.refl _ _).drew)) (XD2.out.call (by first | exact B1.out | exact (Below.refl _ _).drew)) H2.out H4.out).mono ?_; rintro e w2 ⟨⟨v2, rfl, hv2⟩, hb2⟩; have B2 := hid (bnext (by first | exact B1.out | exact (Below.refl _ _).drew) hb2))
      | (go_at_call 103; refine (r2_Reduce _ _ _ _ (n1 * n2) (d1 * d2) (by first | exact hv1 | exact hv1.call hb2) (by first | exact hv2 | exact hv2.call hb1) hD.out L1.out L2.out).mono ?_; rintro e w3 ⟨⟨v3, rfl, hv3⟩, hb3⟩; obtain ⟨N3, D3, rfl, hN3, hD3⟩ := hv3.ex; have B3 := hid (bnext (by first | exact B2.out | exact B1.out) hb3); obtain ⟨a5, c5, rfl, _⟩ := hN3.openI; obtain ⟨a6, c6, rfl, _⟩ := hD3.openI; have HN3 := hid hN3; have HD3 := hid hD3; have Z := hid (HY2.out.call B3.out); have t0 := Z.out.cell 0; have t1 := Z.out.cell 1; have t2 := Z.out.cell 2; have t3 := Z.out.free 0; have t4 := Z.out.free 1; have t5 := Z.out.free 2; clear hv3 hN3 hD3))
  have hbn : (!(m1 == m2)) = (m1 != m2) := rfl
  rw [hbn] at *
  go_wp2_with fail
  obtain ⟨s1, s2⟩ := set3 Z.out (decide ((qmk (m1 != m2) (n1 * n2) (d1 * d2)).num < 0)) a5 a6 (limbs (qmk (m1 != m2) (n1 * n2) (d1 * d2)).num.natAbs).length c5 (limbs (qmk (m1 != m2) (n1 * n2) (d1 * d2)).den).length c6
  have f0 := s2.cell 0
  have f1 := s2.cell 1
  have f2 := s2.cell 2
  simp at f0 f1 f2
  refine bodyPost_ret (v := .agg #[.bool (decide ((qmk (m1 != m2) (n1 * n2) (d1 * d2)).num < 0)), .slice a5 (limbs (qmk (m1 != m2) (n1 * n2) (d1 * d2)).num.natAbs).length c5, .slice a6 (limbs (qmk (m1 != m2) (n1 * n2) (d1 * d2)).den).length c6]) (by simp [results, Tryz.results56, go_sem, f0, f1, f2]) rfl ⟨⟨_, rfl, ⟨_, _, rfl, s1 _ _ _ HN3.out, s1 _ _ _ HD3.out⟩⟩, ?_⟩
  exact (((HX0.out.trans (B3.out.mono (Nat.le_trans (Nat.le_refl _) HX0.out.size))).setCell (by simp; omega) _).setCell (by simp; omega) _).setCell (by simp; omega) _
end Go.Proofs.YtpheklgnmbpobaaGreatDoor
namespace Go.Proofs.YtpheklgnmbpobaaGreatDoor
open Go.RowKit
open Go.Lib (decDigits nDigits)
set_option linter.unusedVariables false
set_option linter.unusedSimpArgs false
def Qv (v : Value) : Prop := ∃ (m : Bool) (a : Option Addr) (n c : Nat) (a' : Option Addr) (n' c' : Nat), v = .agg #[.bool m, .slice a n c, .slice a' n' c']
theorem IsQ.qv {k : IntKind} {w : World} {v : Value} {q : Rat} (h : IsQ k w v q) : Qv v := by
  obtain ⟨N, D, rfl, h1, h2⟩ := h.ex
  obtain ⟨a1, c1, rfl, _⟩ := h1.openI
  obtain ⟨a2, c2, rfl, _⟩ := h2.openI
  exact ⟨_, _, _, _, _, _, _, rfl⟩
theorem RetQE.open {s : ByteArray} {e : Ending} {w' : World} (h : RetQE s e w') : ∃ (m : Bool) (a : Option Addr) (n c : Nat) (a' : Option Addr) (n' c' : Nat), e = .returned (.tuple #[.agg #[.bool m, .slice a n c, .slice a' n' c'], .int .i64 (qE s)]) ∧ (qE s = 0 → IsQ .i64 w' (.agg #[.bool m, .slice a n c, .slice a' n' c']) (vQ s)) ∧ (qE s ≠ 0 → m = false ∧ a = none ∧ n = 0 ∧ c = 0 ∧ a' = none ∧ n' = 0 ∧ c' = 0) := by
  obtain ⟨v, rfl, h1, h2⟩ := h
  by_cases h0 : qE s = 0
  · obtain ⟨m, a, n, c, a', n', c', rfl⟩ := (h1 h0).qv
    exact ⟨m, a, n, c, a', n', c', rfl, h1, fun h => absurd h0 h⟩
  · obtain rfl := h2 h0
    exact ⟨_, _, _, _, _, _, _, rfl, h1, fun _ => ⟨rfl, rfl, rfl, rfl, rfl, rfl, rfl⟩⟩
theorem IsQ.keep {k : IntKind} {w w' : World} {v : Value} {q : Rat} (h : IsQ k w v q) (f : ∀ k v x, IsN k w v x → IsN k w' v x) : IsQ k w' v q := by
  obtain ⟨N, D, rfl, h1, h2⟩ := h.ex
  exact ⟨N, D, rfl, f _ _ _ h1, f _ _ _ h2⟩
theorem IsN.drew {k : IntKind} {w : World} {v : Value} {n : Nat} (h : IsN k w v n) : IsN k w.drew v n := Row.drew h
def RetTwo (s t : ByteArray) (e : Ending) (w' : World) : Prop := ∃ (m : Bool) (a : Option Addr) (n c : Nat) (a' : Option Addr) (n' c' : Nat) (m2 : Bool) (b : Option Addr) (j d : Nat) (b' : Option Addr) (j' d' : Nat),
  e = .returned (.tuple #[.agg #[.bool m, .slice a n c, .slice a' n' c'], .agg #[.bool m2, .slice b j d, .slice b' j' d'], .int .i64 (if qE s = 0 then qE t else qE s)]) ∧
  (qE s = 0 → qE t = 0 → IsQ .i64 w' (.agg #[.bool m, .slice a n c, .slice a' n' c']) (vQ s) ∧ IsQ .i64 w' (.agg #[.bool m2, .slice b j d, .slice b' j' d']) (vQ t))
set_option maxRecDepth 100000 in
set_option maxHeartbeats 1000000 in
theorem r2_two (w : World) (s t : ByteArray) (hs : s.size ≤ 1000000) (ht : t.size ≤ 1000000) :
    Calls Tryz.prog 48 #[.string s, .string t] w fun e w' => RetTwo s t e w' ∧ Below w.heap.size w w' := by
  have R1 := fun V => hid (r2_Read V s hs)
  have R2 := fun V => hid (r2_Read V t ht)
  have t0 := hid (Blk.new w #[.bool false, .slice none 0 0, .slice none 0 0] 75)
  have t1 := hid ((Below.refl w.heap.size w).alloc (Nat.le_refl _) (.cells #[.bool false, .slice none 0 0, .slice none 0 0] 75))
  have u0 := hid ((Blk.new w #[.bool false, .slice none 0 0, .slice none 0 0] 75).alloc (.cells #[.bool false, .slice none 0 0, .slice none 0 0] 75))
  have u1 := hid (Blk.made (w.alloc (.cells #[.bool false, .slice none 0 0, .slice none 0 0] 75)) #[.bool false, .slice none 0 0, .slice none 0 0] 75 (n := w.heap.size + 1) (by simp))
  have u2 := hid (t1.out.alloc (by simp) (.cells #[.bool false, .slice none 0 0, .slice none 0 0] 75))
  clear hs ht t0 t1
  go_enter Tryz.func48, Tryz.ntmps48
  go_wp2_with fail
  refine (R1 _).out.mono ?_; rintro e w1 ⟨hr1, hb1⟩
  obtain ⟨m, a, n, c, a', n', c', rfl, h1, h2⟩ := hr1.open
  have v0 := hid (u0.out.call hb1); have v1 := hid (u1.out.call hb1); have v2 := hid (bnext u2.out hb1)
  have l1 := v1.out.lt
  have n1 : (w1.heap.size = w.heap.size) = False := by simp; omega
  have n2 : (w.heap.size = w1.heap.size) = False := by simp; omega
  have n3 : (w1.heap.size = w.heap.size + 1) = False := by simp; omega
  have n4 : (w.heap.size + 1 = w1.heap.size) = False := by simp; omega
  obtain ⟨x, hx⟩ : ∃ x, qE s = x := ⟨_, rfl⟩
  have HXX := hid hx
  by_cases h0 : x = 0
  · subst h0
    rw [hx]
    have Q1 := hid (h1 hx)
    clear h1 h2 hr1 hb1 R1 hx
    have X7 := hid (Blk.new w1 #[.bool m, .slice a n c, .slice a' n' c'] 75)
    have b7 := hid ((Below.refl w1.heap.size w1).alloc (Nat.le_refl _) (.cells #[.bool m, .slice a n c, .slice a' n' c'] 75))
    have x0 := hid (v0.out.call b7.out); have x1 := hid (v1.out.call b7.out); have x2 := hid (bnext v2.out b7.out); have Q2 := hid (Q1.out.call b7.out)
    clear v0 v1 v2 Q1 b7
    go_wp2_with fail
    refine (R2 _).out.mono ?_; rintro e w2 ⟨hr2, hb2⟩
    obtain ⟨m2, b, j, d, b', j', d', rfl, k1, k2⟩ := hr2.open
    have y0 := hid (x0.out.call hb2); have y1 := hid (x1.out.call hb2); have y2 := hid (bnext x2.out hb2); have y7 := hid (X7.out.call hb2); have Q3 := hid (Q2.out.call hb2)
    have K1 := hid k1
    clear x0 x1 x2 X7 Q2 hb2 hr2 k1 k2 R2
    have l2 := y7.out.lt
    have n5 : (w2.heap.size = w.heap.size) = False := by simp; omega
    have n6 : (w.heap.size = w2.heap.size) = False := by simp; omega
    have n7 : (w2.heap.size = w.heap.size + 1) = False := by simp; omega
    have n8 : (w.heap.size + 1 = w2.heap.size) = False := by simp; omega
    clear l1 l2
    obtain ⟨z, hz⟩ : ∃ z, qE t = z := ⟨_, rfl⟩
    have HZ := hid hz
    rw [hz]
    clear hz
    have X9 := hid (Blk.new w2 #[.bool m2, .slice b j d, .slice b' j' d'] 75)
    have b9 := hid ((Below.refl w2.heap.size w2).alloc (Nat.le_refl _) (.cells #[.bool m2, .slice b j d, .slice b' j' d'] 75))
    have z0 := hid (y0.out.call b9.out); have z1 := hid (y1.out.call b9.out); have z2 := hid (bnext y2.out b9.out); have z7 := hid (y7.out.call b9.out); have Q4 := hid (Q3.out.call b9.out)
    have K2 := fun h => hid ((K1.out h).call b9.out)
    clear y0 y1 y2 y7 Q3 b9 K1
    have HH1 := z0.out.cell 0
    have HH2 := z0.out.cell 1
    have HH3 := z0.out.cell 2
    have HH4 := z0.out.free 0
    have HH5 := z0.out.free 1
    have HH6 := z0.out.free 2
    have KK1 := z1.out.cell 0
    have KK2 := z1.out.cell 1
    have KK3 := z1.out.cell 2
    have KK4 := z1.out.free 0
    have KK5 := z1.out.free 1
    have KK6 := z1.out.free 2
    have JJ1 := z7.out.cell 0
    have JJ2 := z7.out.cell 1
    have JJ3 := z7.out.cell 2
    simp at HH1 HH2 HH3 KK1 KK2 KK3 JJ1 JJ2 JJ3

    have II1 := X9.out.cell 0
    have II2 := X9.out.cell 1
    have II3 := X9.out.cell 2
    simp at II1 II2 II3
    go_wp2_with fail
    go_region
    obtain ⟨p1, p2⟩ := set3 z0.out m a a' n c n' c'
    have r1 := ((z1.out.other (a := ⟨w.heap.size, 0, none⟩) (by simp) (.bool m)).other (a := ⟨w.heap.size, 1, none⟩) (by simp) (.slice a n c)).other (a := ⟨w.heap.size, 2, none⟩) (by simp) (.slice a' n' c')
    obtain ⟨p3, p4⟩ := set3 r1 m2 b b' j d j' d'
    have p5 := ((p2.other (a := ⟨w.heap.size + 1, 0, none⟩) (by simp) (.bool m2)).other (a := ⟨w.heap.size + 1, 1, none⟩) (by simp) (.slice b j d)).other (a := ⟨w.heap.size + 1, 2, none⟩) (by simp) (.slice b' j' d')
    have f0 := p5.drew.cell 0
    have f1 := p5.drew.cell 1
    have f2 := p5.drew.cell 2
    have g0 := p4.drew.cell 0
    have g1 := p4.drew.cell 1
    have g2 := p4.drew.cell 2
    simp at f0 f1 f2 g0 g1 g2
    go_wp2_with fail
    refine bodyPost_ret (v := .tuple #[.agg #[.bool m, .slice a n c, .slice a' n' c'], .agg #[.bool m2, .slice b j d, .slice b' j' d'], .int .i64 z]) (by simp [results, Tryz.results48, go_sem, f0, f1, f2, g0, g1, g2]) rfl ⟨⟨m, a, n, c, a', n', c', m2, b, j, d, b', j', d', by rw [if_pos HXX.out, HZ.out], fun h1 h2 => ⟨(Q4.out.keep fun k v x h => (p3 _ _ _ (p1 _ _ _ h)).drew), ((K2 h2).out.keep fun k v x h => (p3 _ _ _ (p1 _ _ _ h)).drew)⟩⟩, ?_⟩
    exact ((((((z2.out.setCell (Nat.le_refl _) _).setCell (Nat.le_refl _) _).setCell (Nat.le_refl _) _).setCell (Nat.le_succ _) _).setCell (Nat.le_succ _) _).setCell (Nat.le_succ _) _).drew
  · rw [hx]
    have q0 : (x != 0) = true := by simpa using h0
    obtain ⟨rfl, rfl, rfl, rfl, rfl, rfl, rfl⟩ := h2 (by rw [hx]; exact h0)
    have H0 := hid h0
    clear h1 h2 hr1 hb1 R1 R2 hx h0
    have X7 := hid (Blk.new w1 #[.bool false, .slice none 0 0, .slice none 0 0] 75)
    have b7 := hid ((Below.refl w1.heap.size w1).alloc (Nat.le_refl _) (.cells #[.bool false, .slice none 0 0, .slice none 0 0] 75))
    have x0 := hid (v0.out.call b7.out); have x1 := hid (v1.out.call b7.out); have x2 := hid (bnext v2.out b7.out)
    clear v0 v1 v2 b7
    have HH1 := x0.out.cell 0
    have HH2 := x0.out.cell 1
    have HH3 := x0.out.cell 2
    have HH4 := x0.out.free 0
    have HH5 := x0.out.free 1
    have HH6 := x0.out.free 2
    have KK1 := x1.out.cell 0
    have KK2 := x1.out.cell 1
    have KK3 := x1.out.cell 2
    have KK4 := x1.out.free 0
    have KK5 := x1.out.free 1
    have KK6 := x1.out.free 2
    have JJ1 := X7.out.cell 0
    have JJ2 := X7.out.cell 1
    have JJ3 := X7.out.cell 2
    simp at HH1 HH2 HH3 KK1 KK2 KK3 JJ1 JJ2 JJ3

    go_wp2_with fail
    go_region
    obtain ⟨p1, p2⟩ := set3 x0.out false none none 0 0 0 0
    have r1 := ((x1.out.other (a := ⟨w.heap.size, 0, none⟩) (by simp) (.bool false)).other (a := ⟨w.heap.size, 1, none⟩) (by simp) (.slice none 0 0)).other (a := ⟨w.heap.size, 2, none⟩) (by simp) (.slice none 0 0)
    obtain ⟨p3, p4⟩ := set3 r1 false none none 0 0 0 0
    have p5 := ((p2.other (a := ⟨w.heap.size + 1, 0, none⟩) (by simp) (.bool false)).other (a := ⟨w.heap.size + 1, 1, none⟩) (by simp) (.slice none 0 0)).other (a := ⟨w.heap.size + 1, 2, none⟩) (by simp) (.slice none 0 0)
    have f0 := p5.drew.cell 0
    have f1 := p5.drew.cell 1
    have f2 := p5.drew.cell 2
    have g0 := p4.drew.cell 0
    have g1 := p4.drew.cell 1
    have g2 := p4.drew.cell 2
    simp at f0 f1 f2 g0 g1 g2
    go_wp2_with fail
    refine bodyPost_ret (v := .tuple #[.agg #[.bool false, .slice none 0 0, .slice none 0 0], .agg #[.bool false, .slice none 0 0, .slice none 0 0], .int .i64 x]) (by simp [results, Tryz.results48, go_sem, f0, f1, f2, g0, g1, g2]) rfl ⟨⟨false, none, 0, 0, none, 0, 0, false, none, 0, 0, none, 0, 0, by rw [if_neg (by rw [HXX.out]; exact H0.out), HXX.out], fun h1 => absurd (HXX.out.symm.trans h1) H0.out⟩, ?_⟩
    exact ((((((x2.out.setCell (Nat.le_refl _) _).setCell (Nat.le_refl _) _).setCell (Nat.le_refl _) _).setCell (Nat.le_succ _) _).setCell (Nat.le_succ _) _).setCell (Nat.le_succ _) _).drew
theorem dig_of {q : Rat} {K : Nat} (h1 : nDigits q.num.natAbs ≤ K) (h2 : nDigits q.den ≤ K) : Dig K q :=
  ⟨Nat.lt_of_lt_of_le (Go.Lib.lt_pow_nDigits _) (Nat.pow_le_pow_right (by omega) h1), Nat.lt_of_lt_of_le (Go.Lib.lt_pow_nDigits _) (Nat.pow_le_pow_right (by omega) h2)⟩
theorem dig_of_fits {q : Rat} (h : ¬ ovQ q) : Dig 4000 q := by
  unfold ovQ at h
  exact dig_of (by omega) (by omega)
theorem Dig.limbs {K L : Nat} {q : Rat} (h : Dig K q) (h0 : 0 < K) (hl : K ≤ 9 * L) : (limbs q.num.natAbs).length ≤ L ∧ (limbs q.den).length ≤ L :=
  ⟨limbs_digits (Nat.le_trans (nDigits_le h0 h.n) hl), limbs_digits (Nat.le_trans (nDigits_le h0 h.d) hl)⟩
def OpOk (F : Nat) (f : Rat → Rat → Rat) : Prop := ∀ (w : World) (v u : Value) (p q : Rat), IsQ .i64 w v p → IsQ .i64 w u q → Dig 4000 p → Dig 4000 q →
  Calls Tryz.prog F #[v, u] w fun e w' => RetQ .i64 (f p q) e w' ∧ Below w.heap.size w w'
theorem op_plus : OpOk 50 (· + ·) := fun w v u p q hp hq h1 h2 => by
  have l1 := h1.limbs (L := 100000) (by omega) (by omega)
  have l2 := h2.limbs (L := 100000) (by omega) (by omega)
  exact r2_Plus w v u p q hp hq l1.1 l1.2 l2.1 l2.2
theorem op_times : OpOk 56 (· * ·) := fun w v u p q hp hq h1 h2 => by
  have l1 := h1.limbs (L := 100000) (by omega) (by omega)
  have l2 := h2.limbs (L := 100000) (by omega) (by omega)
  exact r2_Times w v u p q hp hq l1.1 l1.2 l2.1 l2.2
set_option maxRecDepth 100000 in
set_option maxHeartbeats 1000000 in
theorem r2_Add (w : World) (s t : ByteArray) (hs : s.size ≤ 1000000) (ht : t.size ≤ 1000000) :
    Calls Tryz.prog 17 #[.string s, .string t] w fun e w' => e = .returned (.tuple #[.string (op2B (· + ·) s t), .int .i64 (op2E (· + ·) s t)]) ∧ Below w.heap.size w w' := by
  have R1 := fun V => hid (r2_two V s t hs ht)
  clear hs ht
  by_cases h0 : qE s = 0 ∧ qE t = 0
  · have eB : op2B (· + ·) s t = outB (vQ s + vQ t) := by rw [op2B, if_pos h0]
    have eE : op2E (· + ·) s t = outE (vQ s + vQ t) := by rw [op2E, if_pos h0.1, if_pos h0.2]
    rw [eB, eE]
    have ds := dig_of_fits (vQ_fits h0.1)
    have dt := dig_of_fits (vQ_fits h0.2)
    have dl := hid ((dig_add ds dt).limbs (L := 1000000) (by omega) (by omega))
    have HO := fun V v u hp hq => hid (op_plus V v u (vQ s) (vQ t) hp hq ds dt)
    have HW := fun V v h => hid (r2_Write V v (vQ s + vQ t) h dl.out.1 dl.out.2)
    obtain ⟨oB, hB⟩ : ∃ x, outB (vQ s + vQ t) = x := ⟨_, rfl⟩
    obtain ⟨oE, hE⟩ : ∃ x, outE (vQ s + vQ t) = x := ⟨_, rfl⟩
    rw [hB, hE] at HW
    rw [hB, hE]
    have H0 := hid h0
    clear eB eE ds dt dl hB hE h0
    go_enter Tryz.func17, Tryz.ntmps17
    go_wp2_with fail
    refine (R1 _).out.mono ?_; rintro e w1 ⟨⟨m, a, n, c, a', n', c', m2, b, j, d, b', j', d', rfl, hq⟩, hb1⟩
    obtain ⟨q1, q2⟩ := hq H0.out.1 H0.out.2
    rw [if_pos H0.out.1, H0.out.2]
    have b0 := ((Below.refl w1.heap.size w1).alloc (Nat.le_refl _) (.cells #[.bool m, .slice a n c, .slice a' n' c'] 75)).alloc (by simp) (.cells #[.bool m2, .slice b j d, .slice b' j' d'] 75)
    have y2 := hid (bnext hb1 b0)
    have H1 := HO _ _ _ (q1.call b0) (q2.call b0)
    clear hb1 q1 q2 hq b0 HO R1
    go_wp2_with fail
    refine H1.out.mono ?_; rintro e w2 ⟨⟨v, rfl, hv⟩, hb2⟩
    have y3 := hid (bnext y2.out hb2)
    have H2 := HW _ _ hv
    obtain ⟨m3, a3, n3, c3, a4, n4, c4, rfl⟩ := hv.qv
    clear hv hb2 HW H1
    go_wp2_with fail
    refine H2.out.mono ?_; rintro e w3 ⟨rfl, hb3⟩
    have y4 := hid (bnext y3.out hb3)
    clear hb3 H2
    go_wp2_with fail
    go_ret2
    exact ⟨rfl, y4.out⟩
  · have n0 : (if qE s = 0 then qE t else qE s) ≠ 0 := by
      split
      · rename_i h; exact fun e => h0 ⟨h, e⟩
      · rename_i h; exact h
    have eB : op2B (· + ·) s t = ⟨#[]⟩ := by rw [op2B, if_neg h0]
    have eE : op2E (· + ·) s t = if qE s = 0 then qE t else qE s := by
      rw [op2E]
      split
      · rename_i h; rw [if_neg (fun e => h0 ⟨h, e⟩)]
      · rfl
    rw [eB, eE]
    obtain ⟨x, hx⟩ : ∃ x, (if qE s = 0 then qE t else qE s) = x := ⟨_, rfl⟩
    rw [hx] at n0 ⊢
    have q0 : (x != 0) = true := by simpa using n0
    have HX := hid hx
    clear h0 n0 eB eE hx
    go_enter Tryz.func17, Tryz.ntmps17
    go_wp2_with fail
    refine (R1 _).out.mono ?_; rintro e w1 ⟨⟨m, a, n, c, a', n', c', m2, b, j, d, b', j', d', rfl, -⟩, hb1⟩
    rw [HX.out]
    have y1 := hid hb1
    have y2 := hid ((hb1.alloc hb1.size (.cells #[.bool m, .slice a n c, .slice a' n' c'] 75)).alloc (Nat.le_trans hb1.size (by simp)) (.cells #[.bool m2, .slice b j d, .slice b' j' d'] 75))
    clear hb1
    go_wp2_with fail
    go_ret2
    exact ⟨rfl, y2.out⟩
set_option maxRecDepth 100000 in
set_option maxHeartbeats 1000000 in
theorem r2_Mul (w : World) (s t : ByteArray) (hs : s.size ≤ 1000000) (ht : t.size ≤ 1000000) :
    Calls Tryz.prog 20 #[.string s, .string t] w fun e w' => e = .returned (.tuple #[.string (op2B (· * ·) s t), .int .i64 (op2E (· * ·) s t)]) ∧ Below w.heap.size w w' := by
  have R1 := fun V => hid (r2_two V s t hs ht)
  clear hs ht
  by_cases h0 : qE s = 0 ∧ qE t = 0
  · have eB : op2B (· * ·) s t = outB (vQ s * vQ t) := by rw [op2B, if_pos h0]
    have eE : op2E (· * ·) s t = outE (vQ s * vQ t) := by rw [op2E, if_pos h0.1, if_pos h0.2]
    rw [eB, eE]
    have ds := dig_of_fits (vQ_fits h0.1)
    have dt := dig_of_fits (vQ_fits h0.2)
    have dl := hid ((dig_mul ds dt).limbs (L := 1000000) (by omega) (by omega))
    have HO := fun V v u hp hq => hid (op_times V v u (vQ s) (vQ t) hp hq ds dt)
    have HW := fun V v h => hid (r2_Write V v (vQ s * vQ t) h dl.out.1 dl.out.2)
    obtain ⟨oB, hB⟩ : ∃ x, outB (vQ s * vQ t) = x := ⟨_, rfl⟩
    obtain ⟨oE, hE⟩ : ∃ x, outE (vQ s * vQ t) = x := ⟨_, rfl⟩
    rw [hB, hE] at HW
    rw [hB, hE]
    have H0 := hid h0
    clear eB eE ds dt dl hB hE h0
    go_enter Tryz.func20, Tryz.ntmps20
    go_wp2_with fail
    refine (R1 _).out.mono ?_; rintro e w1 ⟨⟨m, a, n, c, a', n', c', m2, b, j, d, b', j', d', rfl, hq⟩, hb1⟩
    obtain ⟨q1, q2⟩ := hq H0.out.1 H0.out.2
    rw [if_pos H0.out.1, H0.out.2]
    have b0 := ((Below.refl w1.heap.size w1).alloc (Nat.le_refl _) (.cells #[.bool m, .slice a n c, .slice a' n' c'] 75)).alloc (by simp) (.cells #[.bool m2, .slice b j d, .slice b' j' d'] 75)
    have y2 := hid (bnext hb1 b0)
    have H1 := HO _ _ _ (q1.call b0) (q2.call b0)
    clear hb1 q1 q2 hq b0 HO R1
    go_wp2_with fail
    refine H1.out.mono ?_; rintro e w2 ⟨⟨v, rfl, hv⟩, hb2⟩
    have y3 := hid (bnext y2.out hb2)
    have H2 := HW _ _ hv
    obtain ⟨m3, a3, n3, c3, a4, n4, c4, rfl⟩ := hv.qv
    clear hv hb2 HW H1
    go_wp2_with fail
    refine H2.out.mono ?_; rintro e w3 ⟨rfl, hb3⟩
    have y4 := hid (bnext y3.out hb3)
    clear hb3 H2
    go_wp2_with fail
    go_ret2
    exact ⟨rfl, y4.out⟩
  · have n0 : (if qE s = 0 then qE t else qE s) ≠ 0 := by
      split
      · rename_i h; exact fun e => h0 ⟨h, e⟩
      · rename_i h; exact h
    have eB : op2B (· * ·) s t = ⟨#[]⟩ := by rw [op2B, if_neg h0]
    have eE : op2E (· * ·) s t = if qE s = 0 then qE t else qE s := by
      rw [op2E]
      split
      · rename_i h; rw [if_neg (fun e => h0 ⟨h, e⟩)]
      · rfl
    rw [eB, eE]
    obtain ⟨x, hx⟩ : ∃ x, (if qE s = 0 then qE t else qE s) = x := ⟨_, rfl⟩
    rw [hx] at n0 ⊢
    have q0 : (x != 0) = true := by simpa using n0
    have HX := hid hx
    clear h0 n0 eB eE hx
    go_enter Tryz.func20, Tryz.ntmps20
    go_wp2_with fail
    refine (R1 _).out.mono ?_; rintro e w1 ⟨⟨m, a, n, c, a', n', c', m2, b, j, d, b', j', d', rfl, -⟩, hb1⟩
    rw [HX.out]
    have y1 := hid hb1
    have y2 := hid ((hb1.alloc hb1.size (.cells #[.bool m, .slice a n c, .slice a' n' c'] 75)).alloc (Nat.le_trans hb1.size (by simp)) (.cells #[.bool m2, .slice b j d, .slice b' j' d'] 75))
    clear hb1
    go_wp2_with fail
    go_ret2
    exact ⟨rfl, y2.out⟩
end Go.Proofs.YtpheklgnmbpobaaGreatDoor
namespace Go.Proofs.YtpheklgnmbpobaaGreatDoor
open Go.RowKit
open Go.Lib (decDigits nDigits)
set_option linter.unusedVariables false
set_option linter.unusedSimpArgs false
set_option maxRecDepth 100000 in
set_option maxHeartbeats 2000000 in
theorem r2_Order (w : World) (v u : Value) (p q : Rat) (hp : IsQ .i64 w v p) (hq : IsQ .i64 w u q) (dp : Dig 4000 p) (dq : Dig 4000 q) :
    Calls Tryz.prog 51 #[v, u] w fun e w' => e = .returned (.int .i64 (ordQ p q)) ∧ Below w.heap.size w w' := by
  have HO := fun V v u hp hq => hid (op_plus V v u p (-q) hp hq dp (dig_neg dq))
  have HG := fun V v h => hid (r2_Negative V v q h)
  have HP := hid hp; have HQ := hid hq
  obtain ⟨m, a, n, c, a', n', c', rfl⟩ := hp.qv
  obtain ⟨m2, b, j, d, b', j', d', rfl⟩ := hq.qv
  rw [show ordQ p q = sgnQ (p + -q) by rw [ordQ, Rat.sub_eq_add_neg]]
  obtain ⟨z, hz⟩ : ∃ z, p + -q = z := ⟨_, rfl⟩
  simp only [hz] at HO
  rw [hz]
  clear hp hq dp dq hz
  go_enter Tryz.func51, Tryz.ntmps51
  go_upto_region 1 with fail
  obtain ⟨W, hW⟩ : ∃ W, (w.alloc (.cells #[.bool m, .slice a n c, .slice a' n' c'] 75)).alloc (.cells #[.bool m2, .slice b j d, .slice b' j' d'] 75) = W := ⟨_, rfl⟩
  have Y0 : Blk W w.heap.size #[.bool m, .slice a n c, .slice a' n' c'] 75 := by rw [← hW]; exact (Blk.new w _ _).alloc _
  have Y1 : Blk W (w.heap.size + 1) #[.bool m2, .slice b j d, .slice b' j' d'] 75 := by rw [← hW]; exact Blk.made _ _ _ (by simp)
  have y0 : Below w.heap.size w W := by rw [← hW]; exact ((Below.refl _ _).alloc (Nat.le_refl _) _).alloc (by simp) _
  rw [hW]
  have KK : Hid (∀ w', Below W.heap.size W w' → w'.cell? ⟨w.heap.size, 0, none⟩ = some (.bool m) ∧ w'.cell? ⟨w.heap.size, 1, none⟩ = some (.slice a n c) ∧ w'.cell? ⟨w.heap.size, 2, none⟩ = some (.slice a' n' c') ∧ w'.cell? ⟨w.heap.size + 1, 0, none⟩ = some (.bool m2) ∧ w'.cell? ⟨w.heap.size + 1, 1, none⟩ = some (.slice b j d) ∧ w'.cell? ⟨w.heap.size + 1, 2, none⟩ = some (.slice b' j' d')) := fun w' hb =>
    ⟨(Y0.call hb).cell 0, (Y0.call hb).cell 1, (Y0.call hb).cell 2, (Y1.call hb).cell 0, (Y1.call hb).cell 1, (Y1.call hb).cell 2⟩
  have Q1 := hid (HP.out.call y0); have Q2 := hid (HQ.out.call y0)
  have HY := hid y0
  clear Y0 Y1 y0 hW
  go_cut [5] (fun s5 wx => ∃ (g : Nat) (a5 : Option Addr) (n5 c5 : Nat) (a6 : Option Addr) (n6 c6 : Nat), s5 = .pointer (some ⟨g, 0, none⟩) ∧ Hid (Blk wx g #[.bool (decide (z.num < 0)), .slice a5 n5 c5, .slice a6 n6 c6] 75) ∧ Hid (n5 = (limbs z.num.natAbs).length) ∧ Hid (Below W.heap.size W wx))
  case first =>
    refine held_plain [0, 1] 4 (fun w' => w'.cell? ⟨w.heap.size, 0, none⟩ = some (.bool m) ∧ w'.cell? ⟨w.heap.size, 1, none⟩ = some (.slice a n c) ∧ w'.cell? ⟨w.heap.size, 2, none⟩ = some (.slice a' n' c') ∧ w'.cell? ⟨w.heap.size + 1, 0, none⟩ = some (.bool m2) ∧ w'.cell? ⟨w.heap.size + 1, 1, none⟩ = some (.slice b j d) ∧ w'.cell? ⟨w.heap.size + 1, 2, none⟩ = some (.slice b' j' d')) (by kernel_rfl) (by kernel_rfl) (by kernel_rfl) (by kernel_rfl) (KK.out _ (Below.refl _ _).drew) ?_
    iterate 2
      refine ⟨_, rfl, ?_⟩
      apply Exists.intro
      refine ⟨.inl ⟨by rfl, ?_⟩, ?_⟩
      · (intro W' hW'; obtain ⟨q1, q2, q3, q4, q5, q6⟩ := hW'; go_simp; try (with_reducible rfl))
      (dsimp only [Act.put]; try simp only [List.setIfInBounds_toArray, List.set_cons_zero, List.set_cons_succ])
    refine held_two (i := 2) (j := 4) (by kernel_rfl) (by rfl) (by rfl) (by rfl) (by rfl) ?_ ?_
    · go_wp2_with fail
      refine (HG _ _ (Q2.out.call (Below.refl _ _).drew)).out.mono ?_; rintro e w3 ⟨⟨v3, rfl, hv3⟩, hb3⟩
      have x3 := hid (show Below W.heap.size W w3 from (Below.refl _ _).drew.trans hb3)
      have N3 := hid hv3
      obtain ⟨m5, a5, n5, c5, a6, n6, c6, rfl⟩ := hv3.qv
      clear hb3 hv3
      go_wp2_with fail
      refine ⟨KK.out _ x3.out, ?_⟩
      refine held_two (i := 3) (j := 4) (by kernel_rfl) (by rfl) (by rfl) (by rfl) (by rfl) ?_ ?_
      · go_wp2_with fail
        refine (HO _ _ _ (Q1.out.call x3.out) N3.out).out.mono ?_; rintro e w4 ⟨⟨v4, rfl, hv4⟩, hb4⟩
        have x4 := hid (bnext x3.out hb4)
        obtain ⟨N, D, rfl, h1, h2⟩ := hv4.ex
        obtain ⟨a7, c7, rfl, -⟩ := h1.openI
        obtain ⟨a8, c8, rfl, -⟩ := h2.openI
        clear hb4 hv4 h1 h2
        go_wp2_with fail
        refine ⟨KK.out _ x4.out, ?_⟩
        refine held_one (i := 4) (by kernel_rfl) (by rfl) (by rfl) ?_
        go_wp2_with fail
        refine ⟨KK.out _ (x4.out.alloc x4.out.size _), ?_⟩
        refine held_one (i := 5) (by kernel_rfl) (by rfl) (by rfl) ?_
        go_wp2_with fail
        refine ⟨KK.out _ (x4.out.alloc x4.out.size _), ?_⟩
        refine wpAnyH_done (by kernel_rfl) ?_ _
        simp only [Only]
        go_wp2_with fail
        go_meet
        exact ⟨_, _, _, _, _, _, _, rfl, Blk.new w4 _ _, rfl, x4.out.alloc x4.out.size _⟩
      · go_wp2_with fail
        have A3 := hid (x3.out.alloc x3.out.size (.cells #[.bool false, .slice none 0 0, .slice none 0 0] 75))
        have b3 := hid (Blk.new w3 #[.bool false, .slice none 0 0, .slice none 0 0] 75)
        have n3 := hid (N3.out.call ((Below.refl _ _).alloc (Nat.le_refl _) (.cells #[.bool false, .slice none 0 0, .slice none 0 0] 75)))
        refine ⟨KK.out _ A3.out, ?_⟩
        refine held_one (i := 3) (by kernel_rfl) (by rfl) (by rfl) ?_
        go_wp2_with fail
        refine (HO _ _ _ (Q1.out.call A3.out) n3.out).out.mono ?_; rintro e w4 ⟨⟨v4, rfl, hv4⟩, hb4⟩
        have x4 := hid (bnext A3.out hb4)
        have b4 := hid (b3.out.call hb4)
        obtain ⟨N, D, rfl, h1, h2⟩ := hv4.ex
        obtain ⟨a7, c7, rfl, -⟩ := h1.openI
        obtain ⟨a8, c8, rfl, -⟩ := h2.openI
        have t0 := b4.out.cell 0
        have t1 := b4.out.cell 1
        have t2 := b4.out.cell 2
        have t3 := b4.out.free 0
        have t4 := b4.out.free 1
        have t5 := b4.out.free 2
        simp at t0 t1 t2
        have ge := hid (show W.heap.size ≤ w3.heap.size from x3.out.size)
        obtain ⟨k7, hk7⟩ : ∃ k, (limbs z.num.natAbs).length = k := ⟨_, rfl⟩
        obtain ⟨k8, hk8⟩ : ∃ k, (limbs z.den).length = k := ⟨_, rfl⟩
        obtain ⟨mz, hmz⟩ : ∃ m, decide (z.num < 0) = m := ⟨_, rfl⟩
        rw [hk7, hk8, hmz]
        have HK7 := hid hk7; have HMZ := hid hmz
        clear hb4 hv4 h1 h2 hk7 hk8 hmz
        go_wp2_with fail
        refine ⟨KK.out _ x4.out, ?_⟩
        refine held_one (i := 5) (by kernel_rfl) (by rfl) (by rfl) ?_
        go_wp2_with fail
        obtain ⟨s1, s2⟩ := set3 b4.out mz a7 a8 k7 c7 k8 c8
        have x5 := hid (below_set (below_set (below_set x4.out (i := 0) ge.out (.bool mz)) (i := 1) ge.out (.slice a7 k7 c7)) (i := 2) ge.out (.slice a8 k8 c8))
        have S2 := hid s2
        clear s1 s2 t0 t1 t2 t3 t4 t5
        refine ⟨KK.out _ x5.out, ?_⟩
        refine wpAnyH_done (by kernel_rfl) ?_ _
        simp only [Only]
        go_wp2_with fail
        go_meet
        exact ⟨_, _, _, _, _, _, _, rfl, by rw [HMZ.out]; exact S2, HK7.out.symm, x5⟩
    · go_wp2_with fail
      have A0 := hid (show Below W.heap.size W (W.alloc (.cells #[.bool false, .slice none 0 0, .slice none 0 0] 75)).drew from ((Below.refl _ _).alloc (Nat.le_refl _) _).drew)
      have b0 := hid (show Blk (W.alloc (.cells #[.bool false, .slice none 0 0, .slice none 0 0] 75)).drew W.heap.size #[.bool false, .slice none 0 0, .slice none 0 0] 75 from Blk.new W _ _)
      refine ⟨KK.out _ A0.out, ?_⟩
      refine held_one (i := 2) (by kernel_rfl) (by rfl) (by rfl) ?_
      go_wp2_with fail
      refine (HG _ _ (Q2.out.call A0.out)).out.mono ?_; rintro e w3 ⟨⟨v3, rfl, hv3⟩, hb3⟩
      have x3 := hid (A0.out.trans (hb3.mono A0.out.size))
      have b3 := hid (b0.out.call hb3)
      have N3 := hid hv3
      obtain ⟨m5, a5, n5, c5, a6, n6, c6, rfl⟩ := hv3.qv
      clear hb3 hv3
      go_wp2_with fail
      refine ⟨KK.out _ x3.out, ?_⟩
      refine held_one (i := 3) (by kernel_rfl) (by rfl) (by rfl) ?_
      go_wp2_with fail
      refine (HO _ _ _ (Q1.out.call x3.out) N3.out).out.mono ?_; rintro e w4 ⟨⟨v4, rfl, hv4⟩, hb4⟩
      have x4 := hid (bnext x3.out hb4)
      have b4 := hid (b3.out.call hb4)
      obtain ⟨N, D, rfl, h1, h2⟩ := hv4.ex
      obtain ⟨a7, c7, rfl, -⟩ := h1.openI
      obtain ⟨a8, c8, rfl, -⟩ := h2.openI
      have t0 := b4.out.cell 0
      have t1 := b4.out.cell 1
      have t2 := b4.out.cell 2
      have t3 := b4.out.free 0
      have t4 := b4.out.free 1
      have t5 := b4.out.free 2
      simp at t0 t1 t2
      have ge := hid (Nat.le_refl W.heap.size)
      obtain ⟨k7, hk7⟩ : ∃ k, (limbs z.num.natAbs).length = k := ⟨_, rfl⟩
      obtain ⟨k8, hk8⟩ : ∃ k, (limbs z.den).length = k := ⟨_, rfl⟩
      obtain ⟨mz, hmz⟩ : ∃ m, decide (z.num < 0) = m := ⟨_, rfl⟩
      rw [hk7, hk8, hmz]
      have HK7 := hid hk7; have HMZ := hid hmz
      clear hb4 hv4 h1 h2 hk7 hk8 hmz
      go_wp2_with fail
      refine ⟨KK.out _ x4.out, ?_⟩
      refine held_one (i := 5) (by kernel_rfl) (by rfl) (by rfl) ?_
      go_wp2_with fail
      obtain ⟨s1, s2⟩ := set3 b4.out mz a7 a8 k7 c7 k8 c8
      have x5 := hid (below_set (below_set (below_set x4.out (i := 0) ge.out (.bool mz)) (i := 1) ge.out (.slice a7 k7 c7)) (i := 2) ge.out (.slice a8 k8 c8))
      have S2 := hid s2
      clear s1 s2 t0 t1 t2 t3 t4 t5
      refine ⟨KK.out _ x5.out, ?_⟩
      refine wpAnyH_done (by kernel_rfl) ?_ _
      simp only [Only]
      go_wp2_with fail
      go_meet
      exact ⟨_, _, _, _, _, _, _, rfl, by rw [HMZ.out]; exact S2, HK7.out.symm, x5⟩
  case rest =>
    obtain ⟨g, a5, n5, c5, a6, n6, c6, rfl, hB, hn, hW⟩ := hcut
    have r0 := hB.out.cell 0
    have r1 := hB.out.cell 1
    simp at r0 r1
    have yz := hid (bnext HY.out hW.out)
    by_cases h1 : z.num = 0
    · have es : Hid (sgnQ z = 0) := by show sgnQ z = 0; rw [sgnQ, if_pos h1]
      obtain rfl : n5 = 0 := by rw [hn.out, h1]; exact limbs_none.2 rfl
      clear h1
      go_wp2_with fail
      go_ret
      exact ⟨by rw [es.out]; rfl, yz.out⟩
    · have h2 : n5 ≠ 0 := fun e => h1 (by rw [hn.out] at e; have := limbs_none.1 e; omega)
      have q1 : ((n5 : Int) == 0) = false := by simp; omega
      obtain ⟨mm, hmm⟩ : ∃ m, decide (z.num < 0) = m := ⟨_, rfl⟩
      have es : sgnQ z = if mm = true then -1 else 1 := by
        rw [sgnQ, if_neg h1, ← hmm]; simp
      have ES := hid es
      rw [hmm] at r0
      clear h1 h2 es hmm
      cases mm
      all_goals
        go_wp2_with fail
        go_ret
        exact ⟨by rw [ES.out]; rfl, yz.out⟩
set_option maxRecDepth 100000 in
set_option maxHeartbeats 1000000 in
theorem r2_Cmp (w : World) (s t : ByteArray) (hs : s.size ≤ 1000000) (ht : t.size ≤ 1000000) :
    Calls Tryz.prog 18 #[.string s, .string t] w fun e w' => e = .returned (.tuple #[.int .i64 (cmB s t), .int .i64 (cmE s t)]) ∧ Below w.heap.size w w' := by
  have R1 := fun V => hid (r2_two V s t hs ht)
  clear hs ht
  by_cases h0 : qE s = 0 ∧ qE t = 0
  · have eB : cmB s t = ordQ (vQ s) (vQ t) := by rw [cmB, if_pos h0]
    have eE : cmE s t = 0 := by rw [cmE, if_pos h0.1, h0.2]
    rw [eB, eE]
    have ds := dig_of_fits (vQ_fits h0.1)
    have dt := dig_of_fits (vQ_fits h0.2)
    have HO := fun V v u hp hq => hid (r2_Order V v u (vQ s) (vQ t) hp hq ds dt)
    obtain ⟨o, ho⟩ : ∃ x, ordQ (vQ s) (vQ t) = x := ⟨_, rfl⟩
    rw [ho] at HO ⊢
    have H0 := hid h0
    clear eB eE ds dt ho h0
    go_enter Tryz.func18, Tryz.ntmps18
    go_wp2_with fail
    refine (R1 _).out.mono ?_; rintro e w1 ⟨⟨m, a, n, c, a', n', c', m2, b, j, d, b', j', d', rfl, hq⟩, hb1⟩
    obtain ⟨q1, q2⟩ := hq H0.out.1 H0.out.2
    rw [if_pos H0.out.1, H0.out.2]
    have b0 := ((Below.refl w1.heap.size w1).alloc (Nat.le_refl _) (.cells #[.bool m, .slice a n c, .slice a' n' c'] 75)).alloc (by simp) (.cells #[.bool m2, .slice b j d, .slice b' j' d'] 75)
    have y2 := hid (bnext hb1 b0)
    have H1 := HO _ _ _ (q1.call b0) (q2.call b0)
    clear hb1 q1 q2 hq b0 HO R1
    go_wp2_with fail
    refine H1.out.mono ?_; rintro e w2 ⟨rfl, hb2⟩
    have y3 := hid (bnext y2.out hb2)
    clear hb2 H1
    go_wp2_with fail
    go_ret2
    exact ⟨rfl, y3.out⟩
  · obtain ⟨n0, -, -⟩ := op2_err (f := (· - ·)) h0
    rw [cmB, if_neg h0, cmE]
    obtain ⟨x, hx⟩ : ∃ x, (if qE s = 0 then qE t else qE s) = x := ⟨_, rfl⟩
    rw [hx] at n0 ⊢
    have q0 : (x != 0) = true := by simpa using n0
    have HX := hid hx
    clear h0 n0 hx
    go_enter Tryz.func18, Tryz.ntmps18
    go_wp2_with fail
    refine (R1 _).out.mono ?_; rintro e w1 ⟨⟨m, a, n, c, a', n', c', m2, b, j, d, b', j', d', rfl, -⟩, hb1⟩
    rw [HX.out]
    have y2 := hid ((hb1.alloc hb1.size (.cells #[.bool m, .slice a n c, .slice a' n' c'] 75)).alloc (Nat.le_trans hb1.size (by simp)) (.cells #[.bool m2, .slice b j d, .slice b' j' d'] 75))
    clear hb1
    go_wp2_with fail
    go_ret2
    exact ⟨rfl, y2.out⟩
end Go.Proofs.YtpheklgnmbpobaaGreatDoor
namespace Go.Proofs.YtpheklgnmbpobaaGreatDoor
open Go.RowKit
open Go.Lib (decDigits nDigits)
set_option linter.unusedVariables false
set_option linter.unusedSimpArgs false
theorem pow_nn {q : Rat} (h : 0 ≤ q.num) (n : Nat) : (q ^ n).num.natAbs = q.num.natAbs ^ n ∧ (q ^ n).den = q.den ^ n ∧ decide ((q ^ n).num < 0) = false := by
  have h1 : 0 ≤ q.num ^ n := Int.pow_nonneg h
  refine ⟨by rw [Rat.num_pow, Int.natAbs_pow], Rat.den_pow q n, ?_⟩
  rw [Rat.num_pow]
  simpa using h1
set_option maxRecDepth 100000 in
set_option maxHeartbeats 2000000 in
theorem r2_Pow_nat (w : World) (s : ByteArray) (n : Nat) (hs : s.size ≤ 1000000) (hq : qE s = 0) (h0 : 0 ≤ (vQ s).num) (hn : n ≤ 1000000000) :
    Calls Tryz.prog 19 #[.string s, .int .i64 (n : Nat)] w fun e w' => e = .returned (.tuple #[.string (outB (vQ s ^ n)), .int .i64 (outE (vQ s ^ n))]) ∧ Below w.heap.size w w' := by
  have R1 := hid (r2_Read w s hs)
  obtain ⟨p1, p2, p3⟩ := pow_nn h0 n
  have fits := vQ_fits hq
  have P1 := fun V v h => hid (r1_Power V v (vQ s).num.natAbs n h (by unfold ovQ at fits; omega) (by omega))
  have P2 := fun V v h => hid (r1_Power V v (vQ s).den n h (by unfold ovQ at fits; omega) (by omega))
  have PW := fun V v h (h1 : nDigits ((vQ s).num.natAbs ^ n) ≤ 4000) (h2 : nDigits ((vQ s).den ^ n) ≤ 4000) => hid (r2_Write V v (vQ s ^ n) h (by rw [p1]; exact Nat.le_trans (limbs_of_digits h1) (by omega)) (by rw [p2]; exact Nat.le_trans (limbs_of_digits h2) (by omega)))
  have OV := hid (fun (h : 4000 < nDigits ((vQ s).num.natAbs ^ n) ∨ 4000 < nDigits ((vQ s).den ^ n)) => (show outB (vQ s ^ n) = ⟨#[]⟩ ∧ outE (vQ s ^ n) = 5 from by
    have : ovQ (vQ s ^ n) := by unfold ovQ; rw [p1, p2]; exact h
    exact ⟨if_pos this, if_pos this⟩))
  have t1 : decide ((n : Int) < 0) = false := by simp
  have t2 : ((n : Int) == -9223372036854775808) = false := by rw [beq_eq_false_iff_ne]; omega
  have m0 : decide ((vQ s).num < 0) = false := by simpa using h0
  have HQ := hid hq; have HP1 := hid p1; have HP2 := hid p2; have HP3 := hid p3; have HM0 := hid m0
  clear hs hq p1 p2 p3 h0 m0 fits
  go_enter Tryz.func19, Tryz.ntmps19
  go_wp2_with fail
  refine R1.out.mono ?_; rintro e w1 ⟨⟨v, rfl, hv, -⟩, hb1⟩
  obtain ⟨N, D, rfl, hN, hD⟩ := (hv HQ.out).ex
  have HN := hid hN; have HD := hid hD
  obtain ⟨a1, c1, rfl, -⟩ := hN.openI
  obtain ⟨a2, c2, rfl, -⟩ := hD.openI
  rw [HM0.out, HQ.out]
  obtain ⟨k1, hk1⟩ : ∃ k, (limbs (vQ s).num.natAbs).length = k := ⟨_, rfl⟩
  obtain ⟨k2, hk2⟩ : ∃ k, (limbs (vQ s).den).length = k := ⟨_, rfl⟩
  rw [hk1] at HN ⊢
  rw [hk2] at HD ⊢
  have y1 := hid hb1
  have X1 := hid (Blk.new w1 #[.bool false, .slice a1 k1 c1, .slice a2 k2 c2] 75)
  have A1 := hid ((Below.refl w1.heap.size w1).alloc (Nat.le_refl _) (.cells #[.bool false, .slice a1 k1 c1, .slice a2 k2 c2] 75))
  clear hb1 hv hN hD hk1 hk2
  go_wp2_with fail
  refine (P1 _ _ (HN.out.call A1.out)).out.mono ?_
  rintro e w2 ⟨h, hb2⟩
  have X2 := hid (X1.out.call hb2)
  have y2 := hid (bnext (bnext y1.out A1.out) hb2)
  have D2 := hid ((HD.out.call A1.out).call hb2)
  have r2 := X2.out.cell 2
  simp at r2
  rcases h with ⟨d1, v3, rfl, hv3⟩ | ⟨d1, rfl⟩
  · have N2 := hid hv3; have DD1 := hid d1
    obtain ⟨a3, c3, rfl, -⟩ := hv3.openI
    obtain ⟨k3, hk3⟩ : ∃ k, (limbs ((vQ s).num.natAbs ^ n)).length = k := ⟨_, rfl⟩
    rw [hk3] at N2 ⊢
    clear hb2 hv3 d1 hk3
    go_wp2_with fail
    refine (P2 _ _ D2.out).out.mono ?_
    rintro e w3 ⟨h, hb3⟩
    have y3 := hid (bnext y2.out hb3)
    have N3 := hid (N2.out.call hb3)
    rcases h with ⟨d2, v4, rfl, hv4⟩ | ⟨d2, rfl⟩
    · have D3 := hid hv4; have DD2 := hid d2
      obtain ⟨a4, c4, rfl, -⟩ := hv4.openI
      obtain ⟨k4, hk4⟩ : ∃ k, (limbs ((vQ s).den ^ n)).length = k := ⟨_, rfl⟩
      rw [hk4] at D3 ⊢
      have iq : IsQ .i64 w3 (.agg #[.bool false, .slice a3 k3 c3, .slice a4 k4 c4]) (vQ s ^ n) := ⟨.slice a3 k3 c3, .slice a4 k4 c4, by rw [HP3.out], by rw [HP1.out]; exact N3.out, by rw [HP2.out]; exact D3.out⟩
      have IQ := hid iq
      clear hb3 hv4 d2 hk4 iq
      go_wp2_with fail
      refine (PW _ _ IQ.out DD1.out DD2.out).out.mono ?_; rintro e w4 ⟨rfl, hb4⟩
      have y4 := hid (bnext y3.out hb4)
      clear hb4
      go_wp2_with fail
      go_ret2
      exact ⟨rfl, y4.out⟩
    · obtain ⟨o1, o2⟩ := OV.out (.inr d2)
      have O1 := hid o1; have O2 := hid o2
      clear hb3 d2 o1 o2
      go_wp2_with fail
      go_ret2
      exact ⟨by rw [O1.out, O2.out]; rfl, y3.out⟩
  · obtain ⟨o1, o2⟩ := OV.out (.inl d1)
    have O1 := hid o1; have O2 := hid o2
    clear hb2 d1 o1 o2
    go_wp2_with fail
    refine (P2 _ _ D2.out).out.mono ?_
    rintro e w3 ⟨h, hb3⟩
    have y3 := hid (bnext y2.out hb3)
    rcases h with ⟨-, v4, rfl, hv4⟩ | ⟨-, rfl⟩
    all_goals
      try obtain ⟨a4, c4, rfl, -⟩ := hv4.openI
      try clear hv4
      clear hb3
      go_wp2_with fail
      go_ret2
      exact ⟨by rw [O1.out, O2.out]; rfl, y3.out⟩
end Go.Proofs.YtpheklgnmbpobaaGreatDoor
namespace Go.Proofs.YtpheklgnmbpobaaGreatDoor
open Go.RowKit
set_option linter.unusedVariables false
theorem r2_small (w : World) (n : Nat) (h : n ≤ 9223372036854775807) : Calls Tryz.prog 45 #[.int .i64 n] w fun e w' => e = .returned (numV n) ∧ w = w' := by
  go_enter Tryz.func45, Tryz.ntmps45
  go_wp2_with fail
  refine (r1_FromInt _ n h).mono ?_; rintro e w1 ⟨rfl, rfl⟩
  go_wp2_with fail
  go_ret
  exact ⟨rfl, rfl⟩
end Go.Proofs.YtpheklgnmbpobaaGreatDoor
namespace Go.Proofs.YtpheklgnmbpobaaGreatDoor
open Go.RowKit
open Go.Lib (decDigits nDigits)
set_option linter.unusedVariables false
set_option linter.unusedSimpArgs false
theorem zB_neg (m : Nat) : (⟨#[45]⟩ : ByteArray) ++ numB (m + 1) = zB (-((m : Int) + 1)) := by
  apply ba_ext
  rw [ByteArray.data_append, Array.toList_append, numB_list, zB_list, show -((m : Int) + 1) = -((m + 1 : Nat) : Int) by omega, Lib.itoa_neg _ (by omega)]
  rfl
theorem ndig_i64 {n : Nat} (h : n ≤ 9223372036854775807) : nDigits n ≤ 9000 := Nat.le_trans (nDigits_le (k := 19) (by omega) (by omega)) (by omega)
theorem lim_i64 {n : Nat} (h : n ≤ 9223372036854775807) : (limbs n).length ≤ 1000000 := Nat.le_trans (limbs_digits (K := 3) (Nat.le_trans (nDigits_le (k := 19) (by omega) (by omega)) (by omega))) (by omega)
set_option maxRecDepth 100000 in
set_option maxHeartbeats 1000000 in
theorem r2_IntNeg (w : World) (m : Nat) (h : m ≤ 1000000000) : Calls Tryz.prog 16 #[.int .i64 (-((m : Int) + 1))] w fun e w' => e = .returned (.string (zB (-((m : Int) + 1)))) ∧ Below w.heap.size w w' := by
  have q0 : decide ((0 : Int) ≤ -((m : Int) + 1)) = false := by simp <;> omega
  have q1 : IntKind.i64.wrap (-((m : Int) + 1) + 1) = -(m : Int) := by rw [IntWalk.i64_in _ ⟨by omega, by omega⟩]; omega
  have q2 : IntKind.i64.wrap (-(-(m : Int))) = (m : Int) := by rw [IntWalk.i64_in _ ⟨by omega, by omega⟩]; omega
  have q3 : IntKind.i64.wrap (-(-((m : Int) + 1) + 1)) = (m : Int) := by rw [IntWalk.i64_in _ ⟨by omega, by omega⟩]; omega
  have q4 : IntKind.i64.wrap (m : Int) = (m : Int) := by rw [IntWalk.i64_in _ ⟨by omega, by omega⟩]
  have hz := zB_neg m
  obtain ⟨Z, hZ⟩ : ∃ Z, zB (-((m : Int) + 1)) = Z := ⟨_, rfl⟩
  rw [hZ] at hz ⊢
  have HS := fun V => hid (r2_small V m (by omega))
  have HR := fun V => hid (r1_Read_num V m (ndig_i64 (by omega)))
  have HO := fun V => hid (r2_one V)
  have HP := fun V v u hv hu => hid (r1_Plus V v u m 1 hv hu (lim_i64 (by omega)) (lim_i64 (by omega)))
  have HW := fun V v hv => hid (r1_Write V v (m + 1) hv (lim_i64 (by omega)))
  obtain ⟨M, hM⟩ : ∃ M, numB m = M := ⟨_, rfl⟩
  have hsz := numB_size (m + 1)
  have hnd := ndig_i64 (n := m + 1) (by omega)
  obtain ⟨M1, hM1⟩ : ∃ M, numB (m + 1) = M := ⟨_, rfl⟩
  rw [hM1] at hsz
  have hcat : ¬ 9223372036854775807 < 1 + M1.size := by omega
  simp only [numV_eq] at HS HW
  rw [hM] at HS HR
  rw [hM1] at HW hz
  clear hM hM1 hZ h hsz hnd
  go_enter Tryz.func16, Tryz.ntmps16
  go_wp2_with fail
  refine (HS _).out.mono ?_; rintro e w1 ⟨rfl, rfl⟩
  go_wp2_with fail
  refine (HR _).out.mono ?_; rintro e w2 ⟨⟨v2, rfl, h2⟩, hb2⟩
  have B2 := hid hb2; have V2 := hid h2; clear hb2 h2
  go_wp2_with fail
  refine (HO _).out.mono ?_; rintro e w3 ⟨⟨v3, rfl, h3⟩, hb3⟩
  have B3 := hid (bnext B2.out hb3); have V3 := hid (V2.out.call hb3); have U3 := hid h3; clear hb3 h3
  go_wp2_with fail
  refine (HP _ _ _ V3.out U3.out).out.mono ?_; rintro e w4 ⟨⟨v4, rfl, h4⟩, hb4⟩
  have B4 := hid (bnext B3.out hb4); have V4 := hid h4; clear hb4 h4
  go_wp2_with fail
  refine (HW _ _ V4.out).out.mono ?_; rintro e w5 ⟨rfl, hb5⟩
  have B5 := hid (bnext B4.out hb5); clear hb5
  go_wp2_with fail
  go_ret
  exact ⟨rfl, B5.out⟩
theorem r2_IntZ (w : World) (k : Int) (h1 : -1000000000 ≤ k) (h2 : k ≤ 1000000000) : Calls Tryz.prog 16 #[.int .i64 k] w fun e w' => e = .returned (.string (zB k)) ∧ Below w.heap.size w w' := by
  by_cases hk : 0 ≤ k
  · obtain ⟨n, rfl⟩ : ∃ n : Nat, k = (n : Nat) := ⟨k.toNat, by omega⟩
    refine (r2_Int w n (by omega)).mono ?_
    rintro e w' ⟨rfl, rfl⟩
    exact ⟨by rw [zB_nat], Below.refl _ _⟩
  · obtain ⟨m, rfl⟩ : ∃ m : Nat, k = -((m : Int) + 1) := ⟨(-k - 1).toNat, by omega⟩
    exact r2_IntNeg w m (by omega)
end Go.Proofs.YtpheklgnmbpobaaGreatDoor
