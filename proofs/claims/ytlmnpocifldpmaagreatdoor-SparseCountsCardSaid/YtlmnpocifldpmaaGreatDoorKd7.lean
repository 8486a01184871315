/- Texts that the proof rests on, merged: E2, E3, E4, E5, PcH, Pc2, Sh3, Rep, Sd, Tt, NpG, Gt0, Zs, Cf, Fw, PcB, Rp11, Rp12, Pn6, Rp13, Fd4, Fd6, Fd8, Fn0, Sh6. -/
import Derived.Test.YtlmnpocifldpmaaGreatDoorKd6
import Derived.Deep.LoopGhost
import Derived.RangeFuncBox
import Derived.Scope
import Derived.Shelf.Bits.Mul64
import Derived.Ground.NamesProg
import Derived.Test.YtlmnpocifldpmaaGreatDoorProg
import Derived.Laws.CopyOwn
import Derived.Deep.DeepCutAuto
import Derived.RegionTactic
import Derived.WalkLawsBesides
import Derived.Sort.Walk0
import Derived.Deep.AppendLies
import Derived.Shelf.SlSortCmp.WholeK
import Derived.Shelf.SlGeneric
import Derived.Shelf.Small.Bits
import Derived.Ground.SlsfProg
set_option linter.unusedVariables false
set_option linter.unusedSimpArgs false
set_option linter.unusedSectionVars false
set_option maxRecDepth 100000
set_option maxHeartbeats 8000000
namespace Go.Proofs.YtlmnpocifldpmaaGreatDoor
open Go.RowKit
open Go.Shelf
open Go.Lib (decDigits nDigits)
attribute [local go_sem] Oper.semAt_some
theorem bit_drop {b : ByteArray} (h : chkE b = 0) (p : Nat) : chkE (b.extract p b.size) = 0 ∧ (b.extract p b.size).data.toList = b.data.toList.drop p ∧ (b.extract p b.size).size ≤ 256 := by
 have hl : b.data.toList.length = b.size := list_size b
 have e : (b.extract p b.size).data.toList = b.data.toList.drop p := by
  rw [extract_list, List.take_of_length_le (by rw [List.length_drop]; omega)]
 unfold chkE at h
 split at h
 ·rename_i hb
  split at h
  ·cases h
  ·rename_i h2
   have hs : (b.extract p b.size).size ≤ 256 := by
    have := list_size (b.extract p b.size)
    rw [e, List.length_drop] at this
    omega
   refine ⟨?_, e, hs⟩
   have hb2 : bitB (b.extract p b.size) = true := by
    unfold bitB at hb ⊢
    rw [e]
    rw [List.all_eq_true] at hb ⊢
    exact fun x hx => hb x (List.mem_of_mem_drop hx)
   rw [chkE, if_pos hb2, if_neg (by omega)]
 ·cases h
theorem coins_feeds {Kp : World → World → Prop} (M n : Nat) (hn : 1 ≤ n) (w : World) (ba bb : Nat) (a b : ByteArray) (hKr : ∀ W, Kp W W) (hKt : ∀ {A B C : World}, Kp A B → Kp B C → Kp A C) (ha : a.size ≤ 100000) (hc : chkE b = 0) (he : cPE a = 0)
 (hread : ∀ W1 W2, Below w.heap.size w W1 → Kp W1 W2 → W2.cell? ⟨ba, 0, none⟩ = some (.string a) ∧ W2.cell? ⟨bb, 0, none⟩ = some (.string b) ∧ Lay W2) (hKb : ∀ W1 W2, Below W1.heap.size W1 W2 → Kp W1 W2) :
 FeedsB M n Tryz.prog 284 #[.pointer (some ⟨ba, 0, none⟩), .pointer (some ⟨bb, 0, none⟩)] (fun x : Nat × Nat => #[.int .i64 (x.1 : Int), .int .i64 (x.2 : Int)]) Kp
  (fun pre x => (coinF (bN (cW a)) (bN (qD a)) b.data.toList (posOf pre)).1 = true ∧ x = (posOf pre + (coinF (bN (cW a)) (bN (qD a)) b.data.toList (posOf pre)).2.2, (coinF (bN (cW a)) (bN (qD a)) b.data.toList (posOf pre)).2.1))
  (fun xs => (coinF (bN (cW a)) (bN (qD a)) b.data.toList (posOf xs)).1 = false) (fun _ => True) w := by
 intro l J Jx W hW hJ hJx hY hM h0
 have HR := hid hread; have HY := hid hY; have HW := hid hW; have HJ := hid hJ; have HJx := hid hJx; have HM := hid hM
 have HKr := hid hKr; have HKt : Hid (∀ A B C : World, Kp A B → Kp B C → Kp A C) := fun A B C h k => hKt h k
 have HKb := hid hKb
 have HC := hid hc; have HE := hid he; have HA := hid ha
 clear hread hY hW hJ hJx hKr hKt hM hKb hc he ha
 refine callsIn_of_wp Tryz.func284 rfl trivial ?_ rfl
 simp only [Tryz.ntmps284, List.size_toArray, List.length_cons, List.length_nil, Nat.reduceAdd, Nat.reduceSub, Array.replicate_succ, Array.replicate_zero, List.push_toArray, List.append_toArray, List.nil_append, List.cons_append]
 gi_wp2
 obtain ⟨RR, hRR⟩ : ∃ RR : Nat → Value → World → Prop, RR = fun k i wr => ∃ pre : List (Nat × Nat), i = .int .i64 (posOf pre : Nat) ∧ posOf pre ≤ b.size ∧ k + pre.length = M ∧ J pre wr ∧ Kp W wr := ⟨_, rfl⟩
 have HRR := hid hRR
 clear hRR
 gi_loopw [4, 5, 6] (fun i x5 x6 wr => ∃ k, RR k i wr) (fun i x5 x6 wr => leastOf (fun k => RR k i wr))
 case atStart => exact ⟨M, by rw [HRR.out]; exact ⟨[], rfl, Nat.zero_le _, by simp, h0, HKr.out W⟩⟩
 case round =>
  obtain ⟨hk, hmin⟩ := leastOf_spec hrel
  obtain ⟨k, hkk⟩ : ∃ k, leastOf (fun k => RR k u4 wr) = k := ⟨_, rfl⟩
  rw [hkk] at hk hmin
  rw [HRR.out] at hk
  obtain ⟨pre, rfl, hp, hlen, hJ, hK⟩ := hk
  obtain ⟨c0, c1, hLay⟩ := HR.out W wr HW.out hK
  obtain ⟨p, hpp⟩ : ∃ p, posOf pre = p := ⟨_, rfl⟩
  obtain ⟨q1, q2, q3⟩ := bit_drop HC.out p
  have q4 := fun V hV => hid (c_Draw_ok V a (b.extract p b.size) HA.out q3 q1 HE.out hV)
  rw [q2] at q4
  obtain ⟨x, hx⟩ : ∃ x, tossAt (bN (cW a)) (bN (qD a)) (b.data.toList.drop p) 0 1 0 = x := ⟨_, rfl⟩
  rw [hx] at q4
  have hxc : coinF (bN (cW a)) (bN (qD a)) b.data.toList p = x := hx
  have hle := coinF_le (N := bN (cW a)) (D := bN (qD a)) (l := b.data.toList) (p := p) (by rw [list_size, ← hpp]; exact hp)
  rw [hxc, list_size] at hle
  have HX := hid hxc; have HLE := hid hle; have HP := hid hpp; have HLEN := hid hlen; have HJw := hid hJ; have HK := hid hK; have HLay := hid hLay
  have HREL := hid hrel; have HKK := hid hkk
  rw [hpp] at hp ⊢ HREL
  have h0 : (0 : Int) ≤ (p : Int) := by omega
  have h1 : (p : Int) ≤ (b.size : Int) := by omega
  clear hx hxc hle hpp hlen hJ hK hLay q1 q2 q3 hmin hrel hkk hp
  obtain ⟨d, v, u⟩ := x
  simp only [drawV] at q4
  gi_wp2_with fail
  refine wpIn_wide.2 ?_
  refine held_plain [0, 1, 2, 3] 7 (fun W' => W'.cell? ⟨ba, 0, none⟩ = some (.string a) ∧ W'.cell? ⟨bb, 0, none⟩ = some (.string b)) (by kernel_rfl) (by kernel_rfl) (by kernel_rfl) (by kernel_rfl) ⟨c0, c1⟩ ?_
  iterate 4
   refine ⟨_, rfl, ?_⟩
   apply Exists.intro
   refine ⟨.inl ⟨by rfl, ?_⟩, ?_⟩
   ·(intro W' hW'
     obtain ⟨q1, q2⟩ := hW'
     go_simp
     try (with_reducible rfl))
   (dsimp only [Act.put]; try simp only [List.setIfInBounds_toArray, List.set_cons_zero, List.set_cons_succ])
  refine held_two (i := 4) (j := 8) (by kernel_rfl) (by rfl) (by rfl) (by rfl) (by rfl) ?_ ?_
  ·go_wp2_with fail
   refine (q4 _ (HLay.out.call (Below.refl _ _).drew)).out.mono ?_; rintro e w1 ⟨rfl, hb1⟩
   have y1 := hid (show Below wr.heap.size wr w1 from (Below.refl _ _).drew.trans hb1)
   have s0 := (y1.out.cell (cell_lt c0)).trans c0
   have s1 := (y1.out.cell (cell_lt c1)).trans c1
   clear hb1
   go_wp2_with fail
   refine ⟨⟨s0, s1⟩, ?_⟩
   refine held_more (is := [5, 6, 7]) (g := 3) (by kernel_rfl) rfl ⟨s0, s1⟩ (by kernel_rfl) ?_
   iterate 3
    refine ⟨_, rfl, ?_⟩
    apply Exists.intro
    refine ⟨.inl ⟨by rfl, ?_⟩, ?_⟩
    ·(intro W' hW'
      clear hW'
      go_simp
      try (with_reducible rfl))
    (dsimp only [Act.put]; try simp only [List.setIfInBounds_toArray, List.set_cons_zero, List.set_cons_succ])
   refine held_one (i := 8) (by kernel_rfl) (by rfl) (by rfl) ?_
   go_wp2_with fail
   have s2 := ((Below.refl w1.heap.size w1).alloc (Nat.le_refl _) (.cells #[.bool false, .int .i64 0, .int .i64 0] 82))
   have s3 := (s2.cell (cell_lt s0)).trans s0
   have s4 := (s2.cell (cell_lt s1)).trans s1
   refine ⟨⟨s3, s4⟩, ?_⟩
   refine held_one (i := 9) (by kernel_rfl) (by rfl) (by rfl) ?_
   have bk := Blk.new w1 #[.bool false, .int .i64 0, .int .i64 0] 82
   have r0 : (w1.alloc (.cells #[.bool false, .int .i64 0, .int .i64 0] 82)).cell? ⟨w1.heap.size, 0, none⟩ = some (.bool false) := bk.cell 0
   have r1 : (w1.alloc (.cells #[.bool false, .int .i64 0, .int .i64 0] 82)).cell? ⟨w1.heap.size, 1, none⟩ = some (.int .i64 0) := bk.cell 1
   have r2 : (w1.alloc (.cells #[.bool false, .int .i64 0, .int .i64 0] 82)).cell? ⟨w1.heap.size, 2, none⟩ = some (.int .i64 0) := bk.cell 2
   have f0 := bk.free 0
   have f1 := bk.free 1
   have f2 := bk.free 2
   obtain ⟨dB, hdB⟩ : ∃ n, w1.heap.size = n := ⟨_, rfl⟩
   have HDB := hid hdB
   have LT0 := hid (cell_lt s0); have LT1 := hid (cell_lt s1)
   obtain ⟨w2, hw2⟩ : ∃ w2, w1.alloc (.cells #[.bool false, .int .i64 0, .int .i64 0] 82) = w2 := ⟨_, rfl⟩
   rw [hw2] at s3 s4 bk r0 r1 r2 f0 f1 f2 ⊢
   rw [hw2] at s2
   rw [hdB] at bk r0 r1 r2 f0 f1 f2 s2 LT0 LT1 ⊢
   have BK := hid bk
   have y2 := hid (y1.out.trans (s2.mono (by have := y1.out.size; omega)))
   clear s0 s1 s2 hdB hw2 bk
   go_wp2_with fail
   have bk3 : Blk (((w2.setCell ⟨dB, 0, none⟩ (.bool d)).setCell ⟨dB, 1, none⟩ (.int .i64 (v : Nat))).setCell ⟨dB, 2, none⟩ (.int .i64 (u : Nat))) dB #[.bool d, .int .i64 (v : Nat), .int .i64 (u : Nat)] 82 := by
    have := ((BK.out.set 0 (.bool d)).set 1 (.int .i64 (v : Nat))).set 2 (.int .i64 (u : Nat))
    simpa using this
   have y3 : Below wr.heap.size wr (((w2.setCell ⟨dB, 0, none⟩ (.bool d)).setCell ⟨dB, 1, none⟩ (.int .i64 (v : Nat))).setCell ⟨dB, 2, none⟩ (.int .i64 (u : Nat))) :=
    have hge : wr.heap.size ≤ dB := by rw [← HDB.out]; exact y1.out.size
    ((y2.out.setCell hge _).setCell hge _).setCell hge _
   obtain ⟨V, hV⟩ : ∃ V, ((w2.setCell ⟨dB, 0, none⟩ (.bool d)).setCell ⟨dB, 1, none⟩ (.int .i64 (v : Nat))).setCell ⟨dB, 2, none⟩ (.int .i64 (u : Nat)) = V := ⟨_, rfl⟩
   rw [hV] at bk3 y3 ⊢
   have s5 := (y3.cell (cell_lt c0)).trans c0
   have s6 := (y3.cell (cell_lt c1)).trans c1
   have BV := hid bk3; have YV := hid y3
   clear hV bk3 y3 r0 r1 r2 f0 f1 f2 s3 s4
   refine ⟨⟨s5, s6⟩, ?_⟩
   refine held_one (i := 10) (by kernel_rfl) (by rfl) (by rfl) ?_
   go_wp2_with fail
   refine ⟨⟨s5, s6⟩, ?_⟩
   refine wpAnyH_done (by kernel_rfl) ?_ _
   simp only [Only]
   have e0 : V.cell? ⟨dB, 0, none⟩ = some (.bool d) := BV.out.cell 0
   have e1 : V.cell? ⟨dB, 1, none⟩ = some (.int .i64 (v : Nat)) := BV.out.cell 1
   have e2 : V.cell? ⟨dB, 2, none⟩ = some (.int .i64 (u : Nat)) := BV.out.cell 2
   have ew : IntKind.i64.wrap ((p : Int) + (u : Nat)) = ((p + u : Nat) : Int) := by
    have h2 := HLE.out
    have h3 := (bit_drop HC.out 0).2.2
    have h4 : b.size ≤ 256 := by
     have h5 := (bit_drop HC.out 0).2.1
     have h6 := list_size (b.extract 0 b.size)
     rw [h5, List.drop_zero, list_size] at h6
     omega
    rw [IntWalk.i64_in _ ⟨by omega, by omega⟩]
    omega
   clear s5 s6
   have hJV : J pre V := HJ.out pre wr V none HJw.out ⟨YV.out.os, YV.out.tape, YV.out.output, YV.out.size, fun k hk _ => YV.out.block k hk⟩ (fun r e => by cases e)
   have hKV : Kp W V := HKt.out _ _ _ HK.out (HKb.out _ _ YV.out)
   have HJV := hid hJV; have HKV := hid hKV
   clear hJV hKV
   cases d
   ·gi_wp2_with fail
    refine ⟨fun f hf => (by cases hf), ?_⟩
    gi_wp2_with fail
    refine bodyPost_ret (results_none rfl _ _ _) rfl ?_
    exact ⟨⟨_, rfl⟩, .inl ⟨pre, by rw [HP.out, HX.out], HJV.out⟩⟩
   ·obtain ⟨fn, tmps, assign, body, hy, hR⟩ := HY.out pre (p + u, v) V ⟨by rw [HP.out, HX.out], by rw [HP.out, HX.out]⟩ HJV.out
    dsimp only at hy
    rw [Int.natCast_add] at hy
    have HYR := hid hR
    gi_wp2_with fail
    refine HYR.out.mono ?_
    rintro e W3 (⟨rfl, hJ3, hk3⟩ | ⟨rfl, hJx3⟩)
    ·have hM3 := HM.out _ _ hJ3
     rw [List.length_append, List.length_singleton] at hM3
     have RN := hid (show RR (k - 1) (.int .i64 ((p : Int) + (u : Nat))) W3 from by
      rw [HRR.out]
      refine ⟨pre ++ [(p + u, v)], by rw [posOf_snoc, Int.natCast_add], by rw [posOf_snoc]; exact HLE.out, ?_, hJ3, HKt.out _ _ _ HKV.out hk3⟩
      rw [List.length_append, List.length_singleton]
      have := HLEN.out
      omega)
     have HK1 := hid (show 1 ≤ k from by have := HLEN.out; omega)
     clear hJ3 hk3 hM3 hy hR
     gi_wp2_with fail
     go_roundw
     case rel => exact ⟨_, RN.out⟩
     case measure =>
      have h1 := (leastOf_spec (p := fun k => RR k (.int .i64 ((p : Int) + (u : Nat))) W3) ⟨_, RN.out⟩).2 _ RN.out
      have h2 := HKK.out
      rw [HP.out] at h2
      have h3 := HK1.out
      show leastOf (fun k => RR k (.int .i64 ((p : Int) + (u : Nat))) W3) < leastOf (fun k => RR k (.int .i64 (p : Nat)) wr)
      rw [h2]
      omega
    ·clear hy hR
     gi_wp2_with fail
     refine bodyPost_ret (results_none rfl _ _ _) rfl ?_
     exact ⟨⟨_, rfl⟩, .inr ⟨_, trivial, hJx3⟩⟩
  ·go_wp2_with fail
   have b0 : Blk (wr.alloc (.cells #[.bool false, .int .i64 0, .int .i64 0] 82)).drew wr.heap.size #[.bool false, .int .i64 0, .int .i64 0] 82 := Blk.new wr #[.bool false, .int .i64 0, .int .i64 0] 82
   have a0 : Below wr.heap.size wr (wr.alloc (.cells #[.bool false, .int .i64 0, .int .i64 0] 82)).drew := ((Below.refl _ _).alloc (Nat.le_refl _) _).drew
   obtain ⟨dB, hdB⟩ : ∃ n, wr.heap.size = n := ⟨_, rfl⟩
   have HDB := hid hdB
   obtain ⟨w1, hw1⟩ : ∃ w1, (wr.alloc (.cells #[.bool false, .int .i64 0, .int .i64 0] 82)).drew = w1 := ⟨_, rfl⟩
   rw [hw1] at b0 a0 ⊢
   rw [hdB] at b0 ⊢
   have A0 := hid a0; have BB0 := hid b0
   have s0 := (a0.cell (cell_lt c0)).trans c0
   have s1 := (a0.cell (cell_lt c1)).trans c1
   clear hw1 hdB a0 b0
   refine ⟨⟨s0, s1⟩, ?_⟩
   refine held_one (i := 4) (by kernel_rfl) (by rfl) (by rfl) ?_
   go_wp2_with fail
   refine (q4 _ (HLay.out.call A0.out)).out.mono ?_; rintro e w2 ⟨rfl, hb2⟩
   have y2 := hid (A0.out.trans (hb2.mono A0.out.size))
   have BK := hid (BB0.out.call hb2)
   have s3 := (y2.out.cell (cell_lt c0)).trans c0
   have s4 := (y2.out.cell (cell_lt c1)).trans c1
   clear hb2 s0 s1
   go_wp2_with fail
   refine ⟨⟨s3, s4⟩, ?_⟩
   refine held_more (is := [5, 6, 7]) (g := 2) (by kernel_rfl) rfl ⟨s3, s4⟩ (by kernel_rfl) ?_
   iterate 3
    refine ⟨_, rfl, ?_⟩
    apply Exists.intro
    refine ⟨.inl ⟨by rfl, ?_⟩, ?_⟩
    ·(intro W' hW'
      clear hW'
      go_simp
      try (with_reducible rfl))
    (dsimp only [Act.put]; try simp only [List.setIfInBounds_toArray, List.set_cons_zero, List.set_cons_succ])
   have r0 : w2.cell? ⟨dB, 0, none⟩ = some (.bool false) := BK.out.cell 0
   have r1 : w2.cell? ⟨dB, 1, none⟩ = some (.int .i64 0) := BK.out.cell 1
   have r2 : w2.cell? ⟨dB, 2, none⟩ = some (.int .i64 0) := BK.out.cell 2
   have f0 := BK.out.free 0
   have f1 := BK.out.free 1
   have f2 := BK.out.free 2
   refine held_one (i := 9) (by kernel_rfl) (by rfl) (by rfl) ?_
   go_wp2_with fail
   have bk3 : Blk (((w2.setCell ⟨dB, 0, none⟩ (.bool d)).setCell ⟨dB, 1, none⟩ (.int .i64 (v : Nat))).setCell ⟨dB, 2, none⟩ (.int .i64 (u : Nat))) dB #[.bool d, .int .i64 (v : Nat), .int .i64 (u : Nat)] 82 := by
    have := ((BK.out.set 0 (.bool d)).set 1 (.int .i64 (v : Nat))).set 2 (.int .i64 (u : Nat))
    simpa using this
   have y3 : Below wr.heap.size wr (((w2.setCell ⟨dB, 0, none⟩ (.bool d)).setCell ⟨dB, 1, none⟩ (.int .i64 (v : Nat))).setCell ⟨dB, 2, none⟩ (.int .i64 (u : Nat))) :=
    have hge : wr.heap.size ≤ dB := by rw [← HDB.out]; exact Nat.le_refl _
    ((y2.out.setCell hge _).setCell hge _).setCell hge _
   obtain ⟨V, hV⟩ : ∃ V, ((w2.setCell ⟨dB, 0, none⟩ (.bool d)).setCell ⟨dB, 1, none⟩ (.int .i64 (v : Nat))).setCell ⟨dB, 2, none⟩ (.int .i64 (u : Nat)) = V := ⟨_, rfl⟩
   rw [hV] at bk3 y3 ⊢
   have s5 := (y3.cell (cell_lt c0)).trans c0
   have s6 := (y3.cell (cell_lt c1)).trans c1
   have BV := hid bk3; have YV := hid y3
   clear hV bk3 y3 r0 r1 r2 f0 f1 f2 s3 s4
   refine ⟨⟨s5, s6⟩, ?_⟩
   refine held_one (i := 10) (by kernel_rfl) (by rfl) (by rfl) ?_
   go_wp2_with fail
   refine ⟨⟨s5, s6⟩, ?_⟩
   refine wpAnyH_done (by kernel_rfl) ?_ _
   simp only [Only]
   have e0 : V.cell? ⟨dB, 0, none⟩ = some (.bool d) := BV.out.cell 0
   have e1 : V.cell? ⟨dB, 1, none⟩ = some (.int .i64 (v : Nat)) := BV.out.cell 1
   have e2 : V.cell? ⟨dB, 2, none⟩ = some (.int .i64 (u : Nat)) := BV.out.cell 2
   have ew : IntKind.i64.wrap ((p : Int) + (u : Nat)) = ((p + u : Nat) : Int) := by
    have h2 := HLE.out
    have h3 := (bit_drop HC.out 0).2.2
    have h4 : b.size ≤ 256 := by
     have h5 := (bit_drop HC.out 0).2.1
     have h6 := list_size (b.extract 0 b.size)
     rw [h5, List.drop_zero, list_size] at h6
     omega
    rw [IntWalk.i64_in _ ⟨by omega, by omega⟩]
    omega
   clear s5 s6
   have hJV : J pre V := HJ.out pre wr V none HJw.out ⟨YV.out.os, YV.out.tape, YV.out.output, YV.out.size, fun k hk _ => YV.out.block k hk⟩ (fun r e => by cases e)
   have hKV : Kp W V := HKt.out _ _ _ HK.out (HKb.out _ _ YV.out)
   have HJV := hid hJV; have HKV := hid hKV
   clear hJV hKV
   cases d
   ·gi_wp2_with fail
    refine ⟨fun f hf => (by cases hf), ?_⟩
    gi_wp2_with fail
    refine bodyPost_ret (results_none rfl _ _ _) rfl ?_
    exact ⟨⟨_, rfl⟩, .inl ⟨pre, by rw [HP.out, HX.out], HJV.out⟩⟩
   ·obtain ⟨fn, tmps, assign, body, hy, hR⟩ := HY.out pre (p + u, v) V ⟨by rw [HP.out, HX.out], by rw [HP.out, HX.out]⟩ HJV.out
    dsimp only at hy
    rw [Int.natCast_add] at hy
    have HYR := hid hR
    gi_wp2_with fail
    refine HYR.out.mono ?_
    rintro e W3 (⟨rfl, hJ3, hk3⟩ | ⟨rfl, hJx3⟩)
    ·have hM3 := HM.out _ _ hJ3
     rw [List.length_append, List.length_singleton] at hM3
     have RN := hid (show RR (k - 1) (.int .i64 ((p : Int) + (u : Nat))) W3 from by
      rw [HRR.out]
      refine ⟨pre ++ [(p + u, v)], by rw [posOf_snoc, Int.natCast_add], by rw [posOf_snoc]; exact HLE.out, ?_, hJ3, HKt.out _ _ _ HKV.out hk3⟩
      rw [List.length_append, List.length_singleton]
      have := HLEN.out
      omega)
     have HK1 := hid (show 1 ≤ k from by have := HLEN.out; omega)
     clear hJ3 hk3 hM3 hy hR
     gi_wp2_with fail
     go_roundw
     case rel => exact ⟨_, RN.out⟩
     case measure =>
      have h1 := (leastOf_spec (p := fun k => RR k (.int .i64 ((p : Int) + (u : Nat))) W3) ⟨_, RN.out⟩).2 _ RN.out
      have h2 := HKK.out
      rw [HP.out] at h2
      have h3 := HK1.out
      show leastOf (fun k => RR k (.int .i64 ((p : Int) + (u : Nat))) W3) < leastOf (fun k => RR k (.int .i64 (p : Nat)) wr)
      rw [h2]
      omega
    ·clear hy hR
     gi_wp2_with fail
     refine bodyPost_ret (results_none rfl _ _ _) rfl ?_
     exact ⟨⟨_, rfl⟩, .inr ⟨_, trivial, hJx3⟩⟩
attribute [local go_sem] Oper.semAt_some
structure KpS (n0 b1 b2 : Nat) (W W' : World) : Prop where
 size : W.heap.size ≤ W'.heap.size
 rest : n0 ≤ W.heap.size → b1 < W.heap.size → b2 < W.heap.size → Below n0 W W' ∧ W'.heap[b1]? = W.heap[b1]? ∧ W'.heap[b2]? = W.heap[b2]?
theorem KpS.refl (n0 b1 b2 : Nat) (W : World) : KpS n0 b1 b2 W W := ⟨Nat.le_refl _, fun _ _ _ => ⟨Below.refl _ _, rfl, rfl⟩⟩
theorem KpS.trans {n0 b1 b2 : Nat} {A B C : World} (h : KpS n0 b1 b2 A B) (k : KpS n0 b1 b2 B C) : KpS n0 b1 b2 A C :=
 ⟨Nat.le_trans h.size k.size, fun h1 h2 h3 => by
  obtain ⟨x, y, z⟩ := h.rest h1 h2 h3
  obtain ⟨x', y', z'⟩ := k.rest (Nat.le_trans h1 h.size) (Nat.lt_of_lt_of_le h2 h.size) (Nat.lt_of_lt_of_le h3 h.size)
  exact ⟨x.trans x', y'.trans y, z'.trans z⟩⟩
theorem KpS.of_below {n0 b1 b2 : Nat} {W W' : World} (h : Below W.heap.size W W') : KpS n0 b1 b2 W W' := ⟨h.size, fun h1 h2 h3 => ⟨h.mono h1, h.block _ h2, h.block _ h3⟩⟩
theorem KpS.put {n0 b1 b2 : Nat} {w : World} (h1 : n0 ≤ w.heap.size) (h2 : b1 < w.heap.size) (h3 : b2 < w.heap.size) (W : World) (l : Nat) (o o' : Obj) (hl : w.heap.size ≤ l) (h : W.heap[l]? = some o) (hc : o.isCells = false) (hw : o.isWalk = false) : KpS n0 b1 b2 W (W.putObj l o') := by
 have hs : W.heap.size ≤ (W.putObj l o').heap.size := by simp [World.putObj]
 refine ⟨hs, fun _ _ _ => ⟨?_, ?_, ?_⟩⟩
 ·exact ⟨rfl, rfl, rfl, hs, fun k hk => World.putObj_heap_other (by omega)⟩
 ·exact World.putObj_heap_other (by omega)
 ·exact World.putObj_heap_other (by omega)
def SerI (B many N D : Nat) (l : List UInt8) (pre : List (Nat × Nat)) (W : World) : Prop := ∃ m vs n v, 1 ≤ m ∧ vs.length + m = many ∧ sr N D l many 0 [] 0 = sr N D l m (posOf pre) vs n ∧ posOf pre ≤ l.length ∧
 pre.length + (l.length - posOf pre + m) ≤ l.length + many ∧ n ≤ pre.length ∧ Boxed W (B + 1) 24 v ∧ W.ownsRow B 3 1 v (vs.length + 1) (ints .i64 (vs ++ [n]))
theorem SerI.own {B C many N D : Nat} {l : List UInt8} : OwnFrom C (SerI B many N D l) := by
 rintro s X Y row ⟨m, vs, n, v, h1, h2, h3, h4, h5, h6, hv, hr⟩ hg hrow
 refine ⟨m, vs, n, v, h1, h2, h3, h4, h5, h6, hv.kept hg (fun e' => ?_), hr.kept hg ?_⟩
 ·obtain ⟨-, o, ho, hc⟩ := hrow _ e'.symm
  rw [show X.heap[B + 1]? = _ from hv] at ho; cases ho; cases hc
 ·rcases hr.2 with ⟨rfl, _⟩ | ⟨g, cap, cur, rfl, _, hgb, _⟩
  ·exact .inl rfl
  ·refine .inr fun e' => ?_
   obtain ⟨-, o, ho, hc⟩ := hrow g (by simpa [Value.ownBlock] using e'.symm)
   rw [hgb] at ho; cases ho; cases hc
def SerX (A B many N D : Nat) (l : List UInt8) (W : World) : Prop := ∃ vs x v, sr N D l many 0 [] 0 = some (vs, x) ∧ vs.length = many ∧ Blk W (A + 1) #[v] 24 ∧ Blk W (A + 1 + 1) #[.int .i64 (x : Nat)] 3 ∧ Blk W (A + 1 + 1 + 1) #[.bool true] 4 ∧ W.ownsRow B 3 1 v vs.length (ints .i64 vs)
theorem SerX.keptX {A B many N D : Nat} {l : List UInt8} {X Y : World} {row : Option Nat} (h : SerX A B many N D l X) (hg : X.grownBy Y row) (hrow : ∀ r, row = some r → ∃ o : Obj, X.heap[r]? = some o ∧ o.isCells = false) : SerX A B many N D l Y := by
 obtain ⟨vs, x, v, h1, h2, h3, h4, h5, hr⟩ := h
 refine ⟨vs, x, v, h1, h2, h3.kept hg hrow, h4.kept hg hrow, h5.kept hg hrow, hr.kept hg ?_⟩
 rcases hr.2 with ⟨rfl, _⟩ | ⟨g, cap, cur, rfl, _, hgb, _⟩
 ·exact .inl rfl
 ·refine .inr fun e' => ?_
  obtain ⟨o, ho, hc⟩ := hrow g (by simpa [Value.ownBlock] using e'.symm)
  rw [hgb] at ho; cases ho; cases hc
def SerOut (r : Option (List Nat × Nat)) (e : Ending) (w' : World) : Prop := match r with
 | none => e = .returned (.tuple #[.slice none 0 0, .int .i64 0, .bool false])
 | some (vs, x) => ∃ v, e = .returned (.tuple #[v, .int .i64 (x : Nat), .bool true]) ∧ Row w' v (ints .i64 vs)
theorem g_series (w : World) (a b : ByteArray) (many : Nat) (h1 : 1 ≤ many) (h2 : many ≤ 1000) (ha : a.size ≤ 100000) (hc : chkE b = 0) (he : cPE a = 0) (hND : bN (cW a) < bN (qD a)) (hL : Lay w) :
 Calls Tryz.prog 175 #[.string a, .string b, .int .i64 (many : Nat)] w fun e w' => SerOut (sr (bN (cW a)) (bN (qD a)) b.data.toList many 0 [] 0) e w' ∧ Below w.heap.size w w' := by
 have HL := hid hL; have HC := hid hc; have HE := hid he; have HND := hid hND; have H1 := hid h1; have H2 := hid h2; have HA := hid ha
 have hbs : b.size ≤ 256 := by
  have h5 := (bit_drop hc 0).2.1
  have h6 := list_size (b.extract 0 b.size)
  have h7 := (bit_drop hc 0).2.2
  rw [h5, List.drop_zero, list_size] at h6
  omega
 have HBS := hid hbs
 clear hL hc he hND ha hbs
 obtain ⟨N, hN⟩ : ∃ N, bN (cW a) = N := ⟨_, rfl⟩
 obtain ⟨D, hD⟩ : ∃ N, bN (qD a) = N := ⟨_, rfl⟩
 have HN := hid hN; have HD := hid hD
 rw [hN, hD] at HND ⊢
 clear hN hD
 obtain ⟨L, hL⟩ : ∃ L, b.data.toList = L := ⟨_, rfl⟩
 have HLL := hid (show L.length = b.size from by rw [← hL]; exact list_size b)
 have HLQ := hid hL
 rw [hL]
 clear hL
 refine (callsIn_wide (n := 9)).1 ?_
 refine callsIn_of_wp_marks Tryz.func175 rfl trivial ?_ rfl
 simp only [Tryz.ntmps175, List.size_toArray, List.length_cons, List.length_nil, Nat.reduceAdd, Nat.reduceSub, Array.replicate_succ, Array.replicate_zero, List.push_toArray, List.append_toArray, List.nil_append, List.cons_append]
 gi_wp2_with fail
 refine wpIn_scope ?_
 gi_wp2_with fail
 refine wpIn_label ?_
 gi_wp2_with (refine ⟨trivial, ?_⟩; gi_at_call 242; refine (callsIn_wide.2 (g_coins _ _ _)).mono ?_; rintro e w' ⟨rfl, rfl⟩)
 obtain ⟨i0, hi, hz0, hz1, hz2⟩ := info_parts info_i64
 obtain ⟨W0, hW0⟩ : ∃ W0, (((((((w.alloc (.cells #[.int .i64 (many : Nat)] 3)).alloc (.cells #[.slice none 0 0] 24)).alloc (.cells #[.int .i64 0] 3)).alloc (.cells #[.bool false] 4)).alloc (.cells #[.int .i64 0] 3)).alloc
  (.cells #[.slice (some ⟨w.heap.size + 1 + 1 + 1 + 1, 0, none⟩) 1 1] 24)).alloc (.cells #[.string a] 22)).alloc (.cells #[.string b] 33) = W0 := ⟨_, rfl⟩
 have y0 : Blk W0 w.heap.size #[.int .i64 (many : Nat)] 3 := by rw [← hW0]; exact (((((((Blk.new w _ _).alloc _).alloc _).alloc _).alloc _).alloc _).alloc _).alloc _
 have y1 : Blk W0 (w.heap.size + 1) #[.slice none 0 0] 24 := by rw [← hW0]; exact ((((((Blk.made _ _ _ (by simp)).alloc _).alloc _).alloc _).alloc _).alloc _).alloc _
 have y2 : Blk W0 (w.heap.size + 1 + 1) #[.int .i64 0] 3 := by rw [← hW0]; exact (((((Blk.made _ _ _ (by simp)).alloc _).alloc _).alloc _).alloc _).alloc _
 have y3 : Blk W0 (w.heap.size + 1 + 1 + 1) #[.bool false] 4 := by rw [← hW0]; exact ((((Blk.made _ _ _ (by simp)).alloc _).alloc _).alloc _).alloc _
 have y4 : Blk W0 (w.heap.size + 1 + 1 + 1 + 1) #[.int .i64 0] 3 := by rw [← hW0]; exact (((Blk.made _ _ _ (by simp)).alloc _).alloc _).alloc _
 have y5 : Blk W0 (w.heap.size + 1 + 1 + 1 + 1 + 1) #[.slice (some ⟨w.heap.size + 1 + 1 + 1 + 1, 0, none⟩) 1 1] 24 := by rw [← hW0]; exact ((Blk.made _ _ _ (by simp)).alloc _).alloc _
 have y6 : Blk W0 (w.heap.size + 1 + 1 + 1 + 1 + 1 + 1) #[.string a] 22 := by rw [← hW0]; exact (Blk.made _ _ _ (by simp)).alloc _
 have y7 : Blk W0 (w.heap.size + 1 + 1 + 1 + 1 + 1 + 1 + 1) #[.string b] 33 := by rw [← hW0]; exact Blk.made _ _ _ (by simp)
 have b0 : Below w.heap.size w W0 := by
  rw [← hW0]
  exact ((((((((Below.refl _ _).alloc (Nat.le_refl _) _).alloc (by simp) _).alloc (by simp <;> omega) _).alloc (by simp <;> omega) _).alloc (by simp <;> omega) _).alloc (by simp <;> omega) _).alloc (by simp <;> omega) _).alloc (by simp <;> omega) _
 have z0 : W0.heap.size = w.heap.size + 1 + 1 + 1 + 1 + 1 + 1 + 1 + 1 := by rw [← hW0]; simp
 rw [hW0]
 have Y0 := hid y0; have Y1 := hid y1; have Y2 := hid y2; have Y3 := hid y3; have Y4 := hid y4; have Y5 := hid y5; have Y6 := hid y6; have Y7 := hid y7; have HB0 := hid b0; have Z0 := hid z0
 clear y0 y1 y2 y3 y4 y5 y6 y7 b0 z0 hW0
 obtain ⟨B, hB⟩ : ∃ B, w.heap.size + 1 + 1 + 1 + 1 = B := ⟨_, rfl⟩
 rw [hB] at Y4 Y5 Y6 Y7 Z0 ⊢
 have HBB := hid hB
 clear hB
 have hread : ∀ W1 W2, Below W0.heap.size W0 W1 → KpS B (B + 1 + 1) (B + 1 + 1 + 1) W1 W2 → W2.cell? ⟨B + 1 + 1, 0, none⟩ = some (.string a) ∧ W2.cell? ⟨B + 1 + 1 + 1, 0, none⟩ = some (.string b) ∧ Lay W2 := fun W1 W2 b1 b2 => by
  have hs := b1.size
  have hz := Z0.out
  obtain ⟨r1, r2, r3⟩ := b2.rest (by omega) (by omega) (by omega)
  have g1 : Blk W2 (B + 1 + 1) #[.string a] 22 := r2.trans (Y6.out.call b1)
  have g2 : Blk W2 (B + 1 + 1 + 1) #[.string b] 33 := r3.trans (Y7.out.call b1)
  refine ⟨g1.cell 0, g2.cell 0, HL.out.call ?_⟩
  have hb := HBB.out
  exact (HB0.out.trans (b1.mono (by omega))).trans (r1.mono (by omega))
 refine range_okB (by omega) (gf := 284) (lb := #[.pointer (some ⟨B + 1 + 1, 0, none⟩), .pointer (some ⟨B + 1 + 1 + 1, 0, none⟩)]) rfl (enters_of Tryz.func284 (by kernel_rfl) rfl)
  (coins_feeds (Kp := KpS B (B + 1 + 1) (B + 1 + 1 + 1)) (L.length + many) 8 (by omega) W0 _ _ a b (KpS.refl _ _ _) KpS.trans HA.out HC.out HE.out hread (fun _ _ => KpS.of_below)) KpS.trans (KpS.put (by have := Z0.out; omega) (by have := Z0.out; omega) (by have := Z0.out; omega)) (Below.refl _ _) (fun _ => rfl)
  (fun pre W => (SerI B many N D L pre W ∧ Blk W (B + 1 + 1) #[.string a] 22 ∧ Blk W (B + 1 + 1 + 1) #[.string b] 33) ∧ Below B W0 W)
  (fun c pre W => (c = .ret ∧ SerX w.heap.size B many N D L W) ∧ Below w.heap.size w W)
  (OwnFrom.and (fun s X Y row hs hg hr => ⟨SerI.own s X Y row hs.1 hg hr, hs.2.1.kept hg (fun r e => (hr r e).2), hs.2.2.kept hg (fun r e => (hr r e).2)⟩) (ownFrom_below (by have := Z0.out; omega) (by have := Z0.out; omega)))
  (fun c => OwnFrom.and (fun s X Y row hs hg hr => ⟨hs.1, hs.2.keptX hg (fun r e => (hr r e).2)⟩) (ownFrom_below (Nat.le_refl _) (by have := Z0.out; have := HBB.out; omega)))
  ⟨⟨⟨many, [], 0, _, H1.out, by simp, rfl, Nat.zero_le _, by simp [posOf_nil], Nat.zero_le _, Y5.out, owns_one Y4.out⟩, Y6.out, Y7.out⟩, Below.refl _ _⟩
  (fun pre W h => by obtain ⟨m, vs, n, v, _, _, _, _, h5, _⟩ := h.1.1; omega) ?act ?assign ?body ?done ?stop
 case assign =>
  intro l x W K hK
  gi_wp2
  exact hK
 case body =>
  rintro l pre ⟨q, val⟩ W ⟨hd, hx⟩ ⟨⟨⟨m, vs, n, v, i1, i2, i3, i4, i5, i6, hv, hr⟩, ha6, hb7⟩, hB⟩
  rw [HN.out, HD.out, HLQ.out] at hd hx
  obtain ⟨p, hp⟩ : ∃ p, posOf pre = p := ⟨_, rfl⟩
  rw [hp] at hd hx i3 i4 i5
  have hle := coinF_le (N := N) (D := D) i4
  have hval : (coinF N D L p).2.1 ≤ 1 := by rw [coinF_eq]; exact toss_val _ _ _ _ _
  simp only [Prod.mk.injEq] at hx
  obtain ⟨hq, hvv⟩ := hx
  obtain ⟨g, cap, rfl⟩ := ownsRow_succ hr
  obtain ⟨k, hk⟩ : ∃ k, vs.length = k := ⟨_, rfl⟩
  rw [hk] at hr i2 hv
  obtain ⟨o1, o2, o3, o4, o5, o6, o7⟩ := own_slot hr
  have c0 : W.cell? ⟨g, k, none⟩ = some (.int .i64 (n : Nat)) := o4 k _ (by rw [ints_append, List.getElem?_append_right (by rw [ints_length]; omega), ints_length, hk, Nat.sub_self]; rfl)
  have c1 : W.cell? ⟨B + 1, 0, none⟩ = some (.slice (some ⟨g, 0, none⟩) (k + 1) cap) := Blk.cell hv 0
  have c2 : W.frozen? ⟨B + 1, 0, none⟩ = false := Blk.free hv 0
  have c3 : W.cell? ⟨w.heap.size, 0, none⟩ = some (.int .i64 (many : Nat)) := (Y0.out.below hB (by have := HBB.out; omega)).cell 0
  have r1 := Y1.out.below hB (by have := HBB.out; omega)
  have r2 := Y2.out.below hB (by have := HBB.out; omega)
  have r3 := Y3.out.below hB (by have := HBB.out; omega)
  have c4 := r1.cell 0
  have c5 := r2.cell 0
  have c6 := r3.cell 0
  have c7 := r1.free 0
  have c8 := r2.free 0
  have c9 := r3.free 0
  have d0 := o3 k
  simp at c4 c5 c6
  have hkm : k < 1000 := by have := H2.out; omega
  have hn : n < 3000 := by have h2 := H2.out; have h3 := HBS.out; have h4 := HLL.out; omega
  have w1 : IntKind.i64.wrap (((k + 1 : Nat) : Int) - 1) = (k : Int) := by rw [IntWalk.i64_in _ ⟨by omega, by omega⟩]; omega
  have w2 : IntKind.i64.wrap ((n : Int) + 1) = (n : Int) + 1 := by rw [IntWalk.i64_in _ ⟨by omega, by omega⟩]
  have I1 := hid i1; have I2 := hid i2; have I3 := hid i3; have I4 := hid i4; have I5 := hid i5; have I6 := hid i6; have HV := hid hv; have HR := hid hr; have HBW := hid hB; have HP := hid hp; have HD1 := hid hd; have HLE := hid hle; have HVAL := hid hval; have HQ := hid hq; have HVV := hid hvv; have HKK := hid hk
  have A6 := hid ha6; have A7 := hid hb7; have N6 := hid (o7 _ _ _ (by decide) ha6); have N7 := hid (o7 _ _ _ (by decide) hb7); have N5 := hid (o7 _ _ _ (by decide) hv)
  clear ha6 hb7
  have R1 := hid r1; have R2 := hid r2; have R3 := hid r3; have HC0 := hid o1; have HC1 := hid o2; have HO7 := hid o7
  clear i1 i2 i3 i4 i5 i6 hv hr hB hp hd hle hval hq hvv hk r1 r2 r3 o1 o2 o3 o4 o7
  by_cases h1 : val = 1
  ·have q0 : ((val : Int) == 1) = true := by rw [h1]; rfl
   have HV1 := hid h1
   clear h1
   gi_wp2_with fail
   have e1 : ((n : Int) + 1) = ((n + 1 : Nat) : Int) := rfl
   have hu := coinF_one HND.out HD1.out (HVV.out.symm.trans HV1.out)
   have hser := sr_one (vs := vs) (n := n) HND.out I1.out I4.out HD1.out (HVV.out.symm.trans HV1.out)
   have hq := HQ.out; have h5 := I5.out; have h6 := I6.out; have hle := HLE.out
   refine ⟨(KeepsOthers.setCell _ _ _).from _, ⟨by simp [World.setCell], fun _ _ _ => ⟨(Below.refl _ _).setCell HC0.out _, Below.heap_setCell _ _ _ _ (fun e => N6.out e), Below.heap_setCell _ _ _ _ (fun e => N7.out e)⟩⟩, ⟨⟨m, vs, n + 1, _, I1.out, by rw [HKK.out]; exact I2.out, ?_, ?_, ?_, ?_, Blk.other HV.out (fun e => N5.out e.symm) _, ?_⟩, Blk.other A6.out (fun e => N6.out e.symm) _, Blk.other A7.out (fun e => N7.out e.symm) _⟩, HBW.out.setCell HC0.out _⟩
   ·rw [posOf_snoc, I3.out, hser, hq]
   ·rw [posOf_snoc]; show q ≤ _; omega
   ·rw [posOf_snoc, List.length_append, List.length_singleton]; show pre.length + 1 + (L.length - q + m) ≤ _; omega
   ·rw [List.length_append, List.length_singleton]; omega
   ·rw [HKK.out]
    have h7 := own_set HR.out k (.int .i64 ((n + 1 : Nat) : Int))
    rw [ints_set, List.set_append_right _ _ (Nat.le_of_eq HKK.out), HKK.out, Nat.sub_self] at h7
    exact h7
  ·have q0 : ((val : Int) == 1) = false := by rw [beq_eq_false_iff_ne]; omega
   have HV0 := hid h1
   have hnv := hid (show ¬ (coinF N D L p).2.1 = 1 from by rw [← HVV.out]; exact h1)
   clear h1
   by_cases h2 : k + 1 = many
   ·have q1 : (((k : Int) + 1) == (many : Int)) = true := by rw [beq_iff_eq]; omega
    have HM := hid h2
    clear h2
    gi_wp2_with fail
    have hm1 : m = 1 := by have := I2.out; have := HM.out; omega
    have h8 := HBB.out; have h9 := HC0.out
    have hstop := sr_stop (vs := vs) (n := n) HD1.out hnv.out
    refine ⟨(((KeepsOthers.setCell _ _ _).trans (KeepsOthers.setCell _ _ _)).trans (KeepsOthers.setCell _ _ _)).from _, ⟨rfl, vs ++ [n], q, .slice (some ⟨g, 0, none⟩) (k + 1) cap, ?_, ?_, ?_, ?_, ?_, ?_⟩, ?_⟩
    ·rw [I3.out, hm1, hstop, HQ.out]
    ·rw [List.length_append, HKK.out]; exact HM.out
    ·exact (((R1.out.set 0 _).other (by simp) _).other (by simp <;> omega) _)
    ·exact ((R2.out.other (by simp) _).set 0 _).other (by simp) _
    ·exact ((R3.out.other (by simp <;> omega) _).other (by simp) _).set 0 _
    ·rw [List.length_append, HKK.out]
     exact ((ownsRow_setCell_below (ownsRow_setCell_below (ownsRow_setCell_below HR.out (by simp <;> omega) _) (by simp <;> omega) _) (by simp <;> omega) _))
    ·exact (((HB0.out.trans (HBW.out.mono (by omega))).setCell (by simp <;> omega) _).setCell (by simp <;> omega) _).setCell (by simp <;> omega) _
   ·have q1 : (((k : Int) + 1) == (many : Int)) = false := by rw [beq_eq_false_iff_ne]; omega
    have HM := hid h2
    clear h2
    gi_wp2_with (gi_at_builtin; refine wpListIn_append_own _ rfl _ _ 24 rfl B 3 i0 (.int .i64 0) 1 8 Tryz.underlying24 hi hz0 hz1 hz2 rfl (by decide) _ (k + 1) _ rfl (HR.out.alloc _) ⟨W.heap.size, 0, none⟩ 1 1 [.int .i64 0] rfl rfl (cell_one_new W (.int .i64 0) 3) (by simp [Value.oneCell']) (by unfold maxLen; omega) (by omega) (by have := HC0.out; have := HC1.out; simp; omega) ?_; intro v' w3 hown3 hgrow3 _
                 obtain ⟨g2, cap2, rfl⟩ := ownsRow_succ hown3
                 obtain ⟨e1, e2, e3, e4, e5⟩ := Boxed.appended (B := B + 1) HV.out (by decide) HR.out (by have := HC0.out; have := HC1.out; omega) (Nat.le_succ B) hown3 hgrow3
                 have k0 := e1.cell
                 have k1 := e1.frozen
                 have E1 := hid e1; have E2 := hid e2; have E3 := hid e3; have E4 := hid e4; have E5 := hid e5; have HG3 := hid hgrow3
                 clear e1 e2 e3 e4 e5 hown3 hgrow3)
    have hm2 : 2 ≤ m := by have := I1.out; have := I2.out; have := HM.out; omega
    have hser := sr_more (vs := vs) (n := n) HND.out hm2 I4.out HD1.out hnv.out
    have hq := HQ.out; have h5 := I5.out; have h6 := I6.out; have hle := HLE.out
    have hg : (W.alloc (.cells #[.int .i64 0] 3)).grownBy w3 (some g) := HG3.out
    have A6' := (((A6.out.alloc (.cells #[.int .i64 0] 3)).grown hg (fun e => N6.out (by cases e; rfl))).other (a := ⟨B + 1, 0, none⟩) (by simp) (.slice (some ⟨g2, 0, none⟩) (k + 1 + 1) cap2))
    have A7' := (((A7.out.alloc (.cells #[.int .i64 0] 3)).grown hg (fun e => N7.out (by cases e; rfl))).other (a := ⟨B + 1, 0, none⟩) (by simp <;> omega) (.slice (some ⟨g2, 0, none⟩) (k + 1 + 1) cap2))
    refine ⟨E4.out.from _, ⟨E5.out.size, fun _ _ _ => ⟨E5.out, A6'.trans (Eq.symm A6.out), A7'.trans (Eq.symm A7.out)⟩⟩, ⟨⟨m - 1, vs ++ [n], 0, _, by omega, by rw [List.length_append, HKK.out]; have := I2.out; simp <;> omega, ?_, ?_, ?_, Nat.zero_le _, E2.out, ?_⟩, A6', A7'⟩, HBW.out.trans E5.out⟩
    ·rw [posOf_snoc, I3.out, hser, hq]
    ·rw [posOf_snoc]; show q ≤ _; omega
    ·rw [posOf_snoc, List.length_append, List.length_singleton]; show pre.length + 1 + (L.length - q + (m - 1)) ≤ _; omega
    ·have h7 := E3.out
     rw [List.length_append, List.length_singleton, HKK.out, ints_append]
     exact h7
 case done =>
  rintro D' xs W hD hS ⟨⟨⟨m, vs, n, v, i1, i2, i3, i4, i5, i6, hv, hr⟩, ha6, hb7⟩, hB⟩ hK
  rw [HN.out, HD.out, HLQ.out] at hS
  have hsn := hid (i3.trans (sr_late i1 hS))
  have r1 := Y1.out.below hB (by have := HBB.out; omega)
  have r2 := Y2.out.below hB (by have := HBB.out; omega)
  have r3 := Y3.out.below hB (by have := HBB.out; omega)
  have c4 := r1.cell 0
  have c5 := r2.cell 0
  have c6 := r3.cell 0
  have c7 := r1.free 0
  have c8 := r2.free 0
  have c9 := r3.free 0
  simp at c4 c5 c6
  have R1 := hid r1; have R2 := hid r2; have R3 := hid r3; have HBW := hid hB; have HK := hid hK; have HDD := hid hD
  clear i1 i2 i3 i4 i5 i6 hv hr ha6 hb7 hB hK hS r1 r2 r3 hD
  gi_wp2_with fail
  have q1 := ((R1.out.set 0 (.slice none 0 0)).other (a := ⟨w.heap.size + 1 + 1, 0, none⟩) (by simp) (.int .i64 0)).other (a := ⟨w.heap.size + 1 + 1 + 1, 0, none⟩) (by simp <;> omega) (.bool false)
  have q2 := ((R2.out.other (a := ⟨w.heap.size + 1, 0, none⟩) (by simp) (.slice none 0 0)).set 0 (.int .i64 0)).other (a := ⟨w.heap.size + 1 + 1 + 1, 0, none⟩) (by simp) (.bool false)
  have q3 := ((R3.out.other (a := ⟨w.heap.size + 1, 0, none⟩) (by simp <;> omega) (.slice none 0 0)).other (a := ⟨w.heap.size + 1 + 1, 0, none⟩) (by simp) (.int .i64 0)).set 0 (.bool false)
  have hk3 := ((((KeepsOthers.setCell W ⟨w.heap.size + 1, 0, none⟩ (.slice none 0 0)).trans (KeepsOthers.setCell _ ⟨w.heap.size + 1 + 1, 0, none⟩ (.int .i64 0))).trans (KeepsOthers.setCell _ ⟨w.heap.size + 1 + 1 + 1, 0, none⟩ (.bool false)))).same D' _ HK.out rfl
  have p1 := (q1.put hk3 (.deferred none)).cell 0
  have p2 := (q2.put hk3 (.deferred none)).cell 0
  have p3 := (q3.put hk3 (.deferred none)).cell 0
  simp at p1 p2 p3
  have h8 := HBB.out; have h9 := HDD.out; have hz := Z0.out
  refine marks_end hk3 (v := .tuple #[.slice none 0 0, .int .i64 0, .bool false]) (by simp [results, Tryz.results175, go_sem, p1, p2, p3]) ⟨by rw [hsn.out]; first | done | rfl, ?_⟩
  exact ((((HB0.out.trans (HBW.out.mono (by omega))).setCell (by simp <;> omega) _).setCell (by simp <;> omega) _).setCell (by simp <;> omega) _).trans (belowK_b (w := w) (Nat.le_refl _) _ D' _ _ (by omega) hk3 rfl rfl)
 case stop =>
  rintro D' c pre W hD - ⟨⟨rfl, vs, x, v, h1, h2, h3, h4, h5, hr⟩, hB⟩ hK
  have p1 := (h3.put hK (.deferred none)).cell 0
  have p2 := (h4.put hK (.deferred none)).cell 0
  have p3 := (h5.put hK (.deferred none)).cell 0
  have hrow : Row (W.putObj D' (.deferred none)) v (ints .i64 vs) := Row.put (Row.of_owns hr) hK _
  simp at p1 p2 p3
  have H1' := hid h1; have HROW := hid hrow; have HB' := hid hB; have HK := hid hK; have HDD := hid hD
  obtain ⟨a3, c3, rfl⟩ := owns_ex hr
  clear h1 h3 h4 h5 hr hrow hB hD
  gi_wp2_with fail
  have h8 := HBB.out; have h9 := HDD.out; have hz := Z0.out
  refine marks_end hK (v := .tuple #[.slice a3 vs.length c3, .int .i64 (x : Nat), .bool true]) (by simp [results, Tryz.results175, go_sem, p1, p2, p3]) ⟨?_, ?_⟩
  ·rw [H1'.out]; exact ⟨_, rfl, HROW.out⟩
  ·exact HB'.out.trans (belowK_b (w := w) (Nat.le_refl _) _ D' _ _ (by omega) hK rfl rfl)
theorem gPE_ok {p : ByteArray} (h : gPE p = 0) : cPE p = 0 ∧ bN (cW p) < bN (qD p) := by
 unfold gPE at h
 split at h
 ·rename_i he
  exact absurd h he
 ·rename_i he
  have he' : qE p = 0 := Decidable.not_not.1 he
  split at h
  ·cases h
  ·rename_i h2
   split at h
   ·cases h
   ·rename_i h3
    obtain ⟨a, b, c, d, e1, e2⟩ := parts_ok he' (fun h => h2 (.inl h)) h3
    have h4 : ¬ 0 ≤ cmpN (cW p).data.toList (qD p).data.toList := fun h => h2 (.inr h)
    refine ⟨?_, ?_⟩
    ·rw [cPE, if_neg he, if_neg (fun h => ?_), if_neg h3]
     rcases h with h | h
     ·exact h2 (.inl h)
     ·exact h4 (by omega)
    ·rw [cmpN, if_pos ⟨e1, e2⟩, ordN] at h4
     show dv _ < dv _
     split at h4
     ·assumption
     ·split at h4 <;> simp at h4
theorem gE_ok {a b : ByteArray} (h : gE a b = 0) : gPE a = 0 ∧ chkE b = 0 := by
 unfold gE at h
 split at h
 ·rename_i h1; exact absurd h h1
 ·rename_i h1; exact ⟨Decidable.not_not.1 h1, h⟩
theorem g_draw_none (w : World) (a b : ByteArray) (many : Nat) (h1 : 1 ≤ many) (h2 : many ≤ 1000) (ha : a.size ≤ 100000) (hb : b.size ≤ 100000) (he : gE a b = 0) (hL : Lay w)
 (hr : sr (bN (cW a)) (bN (qD a)) b.data.toList many 0 [] 0 = none) :
 Calls Tryz.prog 104 #[.string a, .string b, .int .i64 (many : Nat)] w fun e w' => e = .returned (.tuple #[.agg #[.bool false, .int .i64 0, .int .i64 (b.size : Nat)], .int .i64 0]) ∧ Below w.heap.size w w' := by
 have HC := fun V hV => hid (g_check V a b ha hb hV)
 have HS := fun V hV => hid (g_series V a b many h1 h2 ha (gE_ok he).2 (gPE_ok (gE_ok he).1).1 (gPE_ok (gE_ok he).1).2 hV)
 rw [he] at HC
 rw [hr] at HS
 simp only [SerOut] at HS
 have HL := hid hL
 have b0 := hid ((Below.refl w.heap.size w).alloc (Nat.le_refl _) (.cells #[.bool false, .int .i64 0, .int .i64 0] 82))
 have x0 := hid (Blk.new w #[.bool false, .int .i64 0, .int .i64 0] 82)
 clear h1 h2 ha hb he hL hr
 go_enter Tryz.func104, Tryz.ntmps104
 go_wp2_with fail
 refine (HC _ (HL.out.call b0.out)).out.mono ?_; rintro e w1 ⟨rfl, hb1⟩
 have b1 := hid (bnext b0.out hb1); have x1 := hid (x0.out.call hb1)
 clear hb1
 go_wp2_with fail
 refine (HS _ (HL.out.call b1.out)).out.mono ?_; rintro e w2 ⟨rfl, hb2⟩
 have b2 := hid (bnext b1.out hb2); have x2 := hid (x1.out.call hb2)
 have r0 : w2.cell? ⟨w.heap.size, 0, none⟩ = some (.bool false) := x2.out.cell 0
 have r1 : w2.cell? ⟨w.heap.size, 1, none⟩ = some (.int .i64 0) := x2.out.cell 1
 have r2 : w2.cell? ⟨w.heap.size, 2, none⟩ = some (.int .i64 0) := x2.out.cell 2
 have f0 := x2.out.free 0
 have f1 := x2.out.free 1
 have f2 := x2.out.free 2
 clear hb2
 go_wp2_with fail
 have s3 := ((x2.out.set 0 (.bool false)).set 1 (.int .i64 0)).set 2 (.int .i64 (b.size : Nat))
 have k0 := s3.cell 0
 have k1 := s3.cell 1
 have k2 := s3.cell 2
 simp at k0 k1 k2
 refine bodyPost_ret (v := .tuple #[.agg #[.bool false, .int .i64 0, .int .i64 (b.size : Nat)], .int .i64 0]) (by simp [results, Tryz.results104, go_sem, k0, k1, k2]) rfl ⟨rfl, ?_⟩
 exact ((b2.out.setCell (Nat.le_refl _) _).setCell (Nat.le_refl _) _).setCell (Nat.le_refl _) _
theorem g_draw_bad (w : World) (a b : ByteArray) (many : Nat) (ha : a.size ≤ 100000) (hb : b.size ≤ 100000) (he : gE a b ≠ 0) (hL : Lay w) :
 Calls Tryz.prog 104 #[.string a, .string b, .int .i64 (many : Nat)] w fun e w' => e = .returned (.tuple #[.agg #[.bool false, .int .i64 0, .int .i64 0], .int .i64 (gE a b)]) ∧ Below w.heap.size w w' := by
 have HC := fun V hV => hid (g_check V a b ha hb hV)
 obtain ⟨x, hx⟩ : ∃ x, gE a b = x := ⟨_, rfl⟩
 rw [hx] at HC he ⊢
 have q0 : (x == 0) = false := by simpa using he
 have q1 : (x != 0) = true := by simpa using he
 have HL := hid hL
 have b0 := hid ((Below.refl w.heap.size w).alloc (Nat.le_refl _) (.cells #[.bool false, .int .i64 0, .int .i64 0] 82))
 have x0 := hid (Blk.new w #[.bool false, .int .i64 0, .int .i64 0] 82)
 clear ha hb he hL hx
 go_enter Tryz.func104, Tryz.ntmps104
 go_wp2_with fail
 refine (HC _ (HL.out.call b0.out)).out.mono ?_; rintro e w2 ⟨rfl, hb2⟩
 have b2 := hid (bnext b0.out hb2); have x2 := hid (x0.out.call hb2)
 have r0 : w2.cell? ⟨w.heap.size, 0, none⟩ = some (.bool false) := x2.out.cell 0
 have r1 : w2.cell? ⟨w.heap.size, 1, none⟩ = some (.int .i64 0) := x2.out.cell 1
 have r2 : w2.cell? ⟨w.heap.size, 2, none⟩ = some (.int .i64 0) := x2.out.cell 2
 have f0 := x2.out.free 0
 have f1 := x2.out.free 1
 have f2 := x2.out.free 2
 clear hb2
 go_wp2_with fail
 have s3 := ((x2.out.set 0 (.bool false)).set 1 (.int .i64 0)).set 2 (.int .i64 0)
 have k0 := s3.cell 0
 have k1 := s3.cell 1
 have k2 := s3.cell 2
 simp at k0 k1 k2
 refine bodyPost_ret (v := .tuple #[.agg #[.bool false, .int .i64 0, .int .i64 0], .int .i64 x]) (by simp [results, Tryz.results104, go_sem, k0, k1, k2]) rfl ⟨rfl, ?_⟩
 exact ((b2.out.setCell (Nat.le_refl _) _).setCell (Nat.le_refl _) _).setCell (Nat.le_refl _) _
theorem g_draw_one (w : World) (a b : ByteArray) (x p : Nat) (hx : x ≤ 100000) (hp : p ≤ 100000) (ha : a.size ≤ 100000) (hb : b.size ≤ 100000) (he : gE a b = 0) (hL : Lay w)
 (hr : sr (bN (cW a)) (bN (qD a)) b.data.toList 1 0 [] 0 = some ([x], p)) :
 Calls Tryz.prog 104 #[.string a, .string b, .int .i64 1] w fun e w' => e = .returned (.tuple #[.agg #[.bool true, .int .i64 (x : Nat), .int .i64 (p : Nat)], .int .i64 0]) ∧ Below w.heap.size w w' := by
 have HC := fun V hV => hid (g_check V a b ha hb hV)
 have HS := fun V hV => hid (g_series V a b 1 (by omega) (by omega) ha (gE_ok he).2 (gPE_ok (gE_ok he).1).1 (gPE_ok (gE_ok he).1).2 hV)
 rw [he] at HC
 rw [hr] at HS
 simp only [SerOut] at HS
 have HL := hid hL
 have b0 := hid ((Below.refl w.heap.size w).alloc (Nat.le_refl _) (.cells #[.bool false, .int .i64 0, .int .i64 0] 82))
 have x0 := hid (Blk.new w #[.bool false, .int .i64 0, .int .i64 0] 82)
 clear ha hb he hL hr
 go_enter Tryz.func104, Tryz.ntmps104
 go_wp2_with fail
 refine (HC _ (HL.out.call b0.out)).out.mono ?_; rintro e w1 ⟨rfl, hb1⟩
 have b1 := hid (bnext b0.out hb1); have x1 := hid (x0.out.call hb1)
 clear hb1
 go_wp2_with fail
 refine (HS _ (HL.out.call b1.out)).out.mono ?_; rintro e w2 ⟨⟨v, rfl, hv⟩, hb2⟩
 have b2 := hid (bnext b1.out hb2); have x2 := hid (x1.out.call hb2)
 obtain ⟨a3, c3, rfl, h3, h4, h5⟩ := hv.openI
 obtain ⟨g, o, rfl, -, hc⟩ := h5 0 x rfl
 rw [Nat.add_zero] at hc
 have r0 : w2.cell? ⟨w.heap.size, 0, none⟩ = some (.bool false) := x2.out.cell 0
 have r1 : w2.cell? ⟨w.heap.size, 1, none⟩ = some (.int .i64 0) := x2.out.cell 1
 have r2 : w2.cell? ⟨w.heap.size, 2, none⟩ = some (.int .i64 0) := x2.out.cell 2
 have f0 := x2.out.free 0
 have f1 := x2.out.free 1
 have f2 := x2.out.free 2
 clear hb2 hv h5
 simp only [List.length_singleton] at h3 ⊢
 go_wp2_with fail
 all_goals
  go_loop [12, 41] (fun v i => v = .int .i64 (x : Nat) ∧ i = .int .i64 0) (fun _ _ => 0)
  case atStart => exact ⟨rfl, rfl⟩
  case round =>
   obtain ⟨rfl, rfl⟩ := hrel
   go_wp2_with fail
   have s3 := ((x2.out.set 0 (.bool true)).set 1 (.int .i64 (x : Nat))).set 2 (.int .i64 (p : Nat))
   have k0 := s3.cell 0
   have k1 := s3.cell 1
   have k2 := s3.cell 2
   simp at k0 k1 k2
   refine bodyPost_ret (v := .tuple #[.agg #[.bool true, .int .i64 (x : Nat), .int .i64 (p : Nat)], .int .i64 0]) (by simp [results, Tryz.results104, go_sem, k0, k1, k2]) rfl ⟨rfl, ?_⟩
   exact ((b2.out.setCell (Nat.le_refl _) _).setCell (Nat.le_refl _) _).setCell (Nat.le_refl _) _
theorem g_draw_two (w : World) (a b : ByteArray) (x y p : Nat) (hx : x ≤ 100000) (hy : y ≤ 100000) (hp : p ≤ 100000) (ha : a.size ≤ 100000) (hb : b.size ≤ 100000) (he : gE a b = 0) (hL : Lay w)
 (hr : sr (bN (cW a)) (bN (qD a)) b.data.toList 2 0 [] 0 = some ([x, y], p)) :
 Calls Tryz.prog 104 #[.string a, .string b, .int .i64 2] w fun e w' => e = .returned (.tuple #[.agg #[.bool true, .int .i64 ((x : Int) - (y : Int)), .int .i64 (p : Nat)], .int .i64 0]) ∧ Below w.heap.size w w' := by
 have HC := fun V hV => hid (g_check V a b ha hb hV)
 have HS := fun V hV => hid (g_series V a b 2 (by omega) (by omega) ha (gE_ok he).2 (gPE_ok (gE_ok he).1).1 (gPE_ok (gE_ok he).1).2 hV)
 rw [he] at HC
 rw [hr] at HS
 simp only [SerOut] at HS
 have HL := hid hL
 have b0 := hid ((Below.refl w.heap.size w).alloc (Nat.le_refl _) (.cells #[.bool false, .int .i64 0, .int .i64 0] 82))
 have x0 := hid (Blk.new w #[.bool false, .int .i64 0, .int .i64 0] 82)
 clear ha hb he hL hr
 go_enter Tryz.func104, Tryz.ntmps104
 go_wp2_with fail
 refine (HC _ (HL.out.call b0.out)).out.mono ?_; rintro e w1 ⟨rfl, hb1⟩
 have b1 := hid (bnext b0.out hb1); have x1 := hid (x0.out.call hb1)
 clear hb1
 go_wp2_with fail
 refine (HS _ (HL.out.call b1.out)).out.mono ?_; rintro e w2 ⟨⟨v, rfl, hv⟩, hb2⟩
 have b2 := hid (bnext b1.out hb2); have x2 := hid (x1.out.call hb2)
 obtain ⟨a3, c3, rfl, h3, h4, h5⟩ := hv.openI
 obtain ⟨g, o, rfl, -, hc⟩ := h5 0 x rfl
 obtain ⟨g', o', hgo, -, hd⟩ := h5 1 y rfl
 simp at hgo
 obtain ⟨rfl, rfl⟩ := hgo
 rw [Nat.add_zero] at hc
 have r0 : w2.cell? ⟨w.heap.size, 0, none⟩ = some (.bool false) := x2.out.cell 0
 have r1 : w2.cell? ⟨w.heap.size, 1, none⟩ = some (.int .i64 0) := x2.out.cell 1
 have r2 : w2.cell? ⟨w.heap.size, 2, none⟩ = some (.int .i64 0) := x2.out.cell 2
 have f0 := x2.out.free 0
 have f1 := x2.out.free 1
 have f2 := x2.out.free 2
 clear hb2 hv h5
 simp only [List.length_cons, List.length_nil, Nat.zero_add, Nat.reduceAdd] at h3 ⊢
 have w1 : IntKind.i64.wrap ((x : Int) - (y : Int)) = (x : Int) - (y : Int) := by rw [IntWalk.i64_in _ ⟨by omega, by omega⟩]
 go_wp2_with fail
 all_goals
  go_loop [12, 41] (fun v i => (v = .int .i64 (x : Nat) ∧ i = .int .i64 0) ∨ (v = .int .i64 ((x : Int) - (y : Int)) ∧ i = .int .i64 1)) (fun _ i => 1 - (intOf i).toNat)
  case atStart => exact .inl ⟨rfl, rfl⟩
  case round =>
   rcases hrel with ⟨rfl, rfl⟩ | ⟨rfl, rfl⟩
   ·go_wp2_with fail
    go_round
    case rel => exact .inr ⟨rfl, rfl⟩
    case measure => simp [intOf]
   ·go_wp2_with fail
    have s3 := ((x2.out.set 0 (.bool true)).set 1 (.int .i64 ((x : Int) - (y : Int)))).set 2 (.int .i64 (p : Nat))
    have k0 := s3.cell 0
    have k1 := s3.cell 1
    have k2 := s3.cell 2
    simp at k0 k1 k2
    refine bodyPost_ret (v := .tuple #[.agg #[.bool true, .int .i64 ((x : Int) - (y : Int)), .int .i64 (p : Nat)], .int .i64 0]) (by simp [results, Tryz.results104, go_sem, k0, k1, k2]) rfl ⟨rfl, ?_⟩
    exact ((b2.out.setCell (Nat.le_refl _) _).setCell (Nat.le_refl _) _).setCell (Nat.le_refl _) _
def d3 (t : Bool × Int × Int) : Value := .agg #[.bool t.1, .int .i64 t.2.1, .int .i64 t.2.2]
def oneT (N D : Nat) (l : List UInt8) : Bool × Int × Int := match s1 N D l 0 0 with
 | none => (false, 0, (l.length : Nat))
 | some (x, p) => (true, (x : Nat), (p : Nat))
def twoT (N D : Nat) (l : List UInt8) : Bool × Int × Int := match s1 N D l 0 0 with
 | none => (false, 0, (l.length : Nat))
 | some (x, p) => match s1 N D l p 0 with
  | none => (false, 0, (l.length : Nat))
  | some (y, q) => (true, (x : Int) - (y : Int), (q : Nat))
def oT (a b : ByteArray) : Bool × Int × Int := if gE a b = 0 then oneT (bN (cW a)) (bN (qD a)) b.data.toList else (false, 0, 0)
def wT (a b : ByteArray) : Bool × Int × Int := if gE a b = 0 then twoT (bN (cW a)) (bN (qD a)) b.data.toList else (false, 0, 0)
theorem chk_size {b : ByteArray} (h : chkE b = 0) : b.size ≤ 256 := by
 have h5 := (bit_drop h 0).2.1
 have h6 := list_size (b.extract 0 b.size)
 have h7 := (bit_drop h 0).2.2
 rw [h5, List.drop_zero, list_size] at h6
 omega
theorem g_draw1 (w : World) (a b : ByteArray) (ha : a.size ≤ 100000) (hb : b.size ≤ 100000) (hL : Lay w) :
 Calls Tryz.prog 104 #[.string a, .string b, .int .i64 1] w fun e w' => e = .returned (.tuple #[d3 (oT a b), .int .i64 (gE a b)]) ∧ Below w.heap.size w w' := by
 by_cases he : gE a b = 0
 ·have hs := chk_size (gE_ok he).2
  have hND := (gPE_ok (gE_ok he).1).2
  have hl : b.data.toList.length = b.size := list_size b
  have h1 := sr_one_eq hND (l := b.data.toList) b.data.toList.length 0 [] 0 (Nat.zero_le _) (by omega)
  rw [oT, if_pos he, oneT, he]
  cases hS : s1 (bN (cW a)) (bN (qD a)) b.data.toList 0 0 with
  | none =>
   rw [hS] at h1
   refine (g_draw_none w a b 1 (by omega) (by omega) ha hb he hL h1).mono fun e w' h => ?_
   rw [h.1]
   exact ⟨by rw [hl]; rfl, h.2⟩
  | some y =>
   obtain ⟨x, p⟩ := y
   rw [hS] at h1
   have h2 := s1_le hND b.data.toList.length 0 0 x p (Nat.zero_le _) (by omega) hS
   exact g_draw_one w a b x p (by omega) (by omega) ha hb he hL h1
 ·rw [oT, if_neg he]
  exact g_draw_bad w a b 1 ha hb he hL
theorem g_draw2 (w : World) (a b : ByteArray) (ha : a.size ≤ 100000) (hb : b.size ≤ 100000) (hL : Lay w) :
 Calls Tryz.prog 104 #[.string a, .string b, .int .i64 2] w fun e w' => e = .returned (.tuple #[d3 (wT a b), .int .i64 (gE a b)]) ∧ Below w.heap.size w w' := by
 by_cases he : gE a b = 0
 ·have hs := chk_size (gE_ok he).2
  have hND := (gPE_ok (gE_ok he).1).2
  have hl : b.data.toList.length = b.size := list_size b
  have h1 := sr_two hND (l := b.data.toList) b.data.toList.length 0 [] 0 (Nat.zero_le _) (by omega)
  rw [wT, if_pos he, twoT, he]
  cases hS : s1 (bN (cW a)) (bN (qD a)) b.data.toList 0 0 with
  | none =>
   rw [hS] at h1
   refine (g_draw_none w a b 2 (by omega) (by omega) ha hb he hL h1).mono fun e w' h => ?_
   rw [h.1]
   exact ⟨by rw [hl]; rfl, h.2⟩
  | some y =>
   obtain ⟨x, p⟩ := y
   rw [hS] at h1
   have h2 := s1_le hND b.data.toList.length 0 0 x p (Nat.zero_le _) (by omega) hS
   have h3 := sr_one_eq hND (l := b.data.toList) b.data.toList.length p ([] ++ [x]) 0 h2.2.1 (by omega)
   dsimp only at h1 ⊢
   rw [h3] at h1
   cases hT : s1 (bN (cW a)) (bN (qD a)) b.data.toList p 0 with
   | none =>
    rw [hT] at h1
    refine (g_draw_none w a b 2 (by omega) (by omega) ha hb he hL h1).mono fun e w' h => ?_
    rw [h.1]
    exact ⟨by rw [hl]; rfl, h.2⟩
   | some z =>
    obtain ⟨y, q⟩ := z
    rw [hT] at h1
    have h4 := s1_le hND b.data.toList.length p 0 y q h2.2.1 (by omega) hT
    exact g_draw_two w a b x y q (by omega) (by omega) (by omega) ha hb he hL h1
 ·rw [wT, if_neg he]
  exact g_draw_bad w a b 2 ha hb he hL
theorem g_One (w : World) (a b : ByteArray) (ha : a.size ≤ 100000) (hb : b.size ≤ 100000) (hL : Lay w) :
 Calls Tryz.prog 139 #[.string a, .string b] w fun e w' => e = .returned (.tuple #[d3 (oT a b), .int .i64 (gE a b)]) ∧ Below w.heap.size w w' := by
 have HC := fun V hV => hid (g_draw1 V a b ha hb hV)
 obtain ⟨t, ht⟩ : ∃ t, oT a b = t := ⟨_, rfl⟩
 obtain ⟨x, hx⟩ : ∃ x, gE a b = x := ⟨_, rfl⟩
 rw [ht, hx] at HC
 rw [ht, hx]
 obtain ⟨d, v, u⟩ := t
 simp only [d3] at HC
 have HL := hid hL
 have b0 := hid ((Below.refl w.heap.size w).alloc (Nat.le_refl _) (.cells #[.bool false, .int .i64 0, .int .i64 0] 82))
 have x0 := hid (Blk.new w #[.bool false, .int .i64 0, .int .i64 0] 82)
 clear ha hb hL hx ht
 go_enter Tryz.func139, Tryz.ntmps139
 go_wp2_with fail
 refine (HC _ (HL.out.call b0.out)).out.mono ?_; rintro e w2 ⟨rfl, hb2⟩
 have b2 := hid (bnext b0.out hb2); have x2 := hid (x0.out.call hb2)
 have r0 : w2.cell? ⟨w.heap.size, 0, none⟩ = some (.bool false) := x2.out.cell 0
 have r1 : w2.cell? ⟨w.heap.size, 1, none⟩ = some (.int .i64 0) := x2.out.cell 1
 have r2 : w2.cell? ⟨w.heap.size, 2, none⟩ = some (.int .i64 0) := x2.out.cell 2
 have f0 := x2.out.free 0
 have f1 := x2.out.free 1
 have f2 := x2.out.free 2
 clear hb2
 go_wp2_with fail
 have s3 := ((x2.out.set 0 (.bool d)).set 1 (.int .i64 v)).set 2 (.int .i64 u)
 have k0 := s3.cell 0
 have k1 := s3.cell 1
 have k2 := s3.cell 2
 simp at k0 k1 k2
 refine bodyPost_ret (v := .tuple #[.agg #[.bool d, .int .i64 v, .int .i64 u], .int .i64 x]) (by simp [results, Tryz.results139, go_sem, k0, k1, k2]) rfl ⟨rfl, ?_⟩
 exact ((b2.out.setCell (Nat.le_refl _) _).setCell (Nat.le_refl _) _).setCell (Nat.le_refl _) _
theorem g_Two (w : World) (a b : ByteArray) (ha : a.size ≤ 100000) (hb : b.size ≤ 100000) (hL : Lay w) :
 Calls Tryz.prog 46 #[.string a, .string b] w fun e w' => e = .returned (.tuple #[d3 (wT a b), .int .i64 (gE a b)]) ∧ Below w.heap.size w w' := by
 have HC := fun V hV => hid (g_draw2 V a b ha hb hV)
 obtain ⟨t, ht⟩ : ∃ t, wT a b = t := ⟨_, rfl⟩
 obtain ⟨x, hx⟩ : ∃ x, gE a b = x := ⟨_, rfl⟩
 rw [ht, hx] at HC
 rw [ht, hx]
 obtain ⟨d, v, u⟩ := t
 simp only [d3] at HC
 have HL := hid hL
 have b0 := hid ((Below.refl w.heap.size w).alloc (Nat.le_refl _) (.cells #[.bool false, .int .i64 0, .int .i64 0] 82))
 have x0 := hid (Blk.new w #[.bool false, .int .i64 0, .int .i64 0] 82)
 clear ha hb hL hx ht
 go_enter Tryz.func46, Tryz.ntmps46
 go_wp2_with fail
 refine (HC _ (HL.out.call b0.out)).out.mono ?_; rintro e w2 ⟨rfl, hb2⟩
 have b2 := hid (bnext b0.out hb2); have x2 := hid (x0.out.call hb2)
 have r0 : w2.cell? ⟨w.heap.size, 0, none⟩ = some (.bool false) := x2.out.cell 0
 have r1 : w2.cell? ⟨w.heap.size, 1, none⟩ = some (.int .i64 0) := x2.out.cell 1
 have r2 : w2.cell? ⟨w.heap.size, 2, none⟩ = some (.int .i64 0) := x2.out.cell 2
 have f0 := x2.out.free 0
 have f1 := x2.out.free 1
 have f2 := x2.out.free 2
 clear hb2
 go_wp2_with fail
 have s3 := ((x2.out.set 0 (.bool d)).set 1 (.int .i64 v)).set 2 (.int .i64 u)
 have k0 := s3.cell 0
 have k1 := s3.cell 1
 have k2 := s3.cell 2
 simp at k0 k1 k2
 refine bodyPost_ret (v := .tuple #[.agg #[.bool d, .int .i64 v, .int .i64 u], .int .i64 x]) (by simp [results, Tryz.results46, go_sem, k0, k1, k2]) rfl ⟨rfl, ?_⟩
 exact ((b2.out.setCell (Nat.le_refl _) _).setCell (Nat.le_refl _) _).setCell (Nat.le_refl _) _
def hasM (L : List (ByteArray × ByteArray)) (x : ByteArray × ByteArray) : Bool := L.any (fun y => decide (y = x))
theorem hasM_iff {L : List (ByteArray × ByteArray)} {x : ByteArray × ByteArray} : hasM L x = true ↔ x ∈ L := by
 unfold hasM
 rw [List.any_eq_true]
 exact ⟨fun ⟨y, hy, e⟩ => by rw [decide_eq_true_eq] at e; exact e ▸ hy, fun h => ⟨x, h, by simp⟩⟩
theorem k_HasM (w : World) (v : Value) (L : List (ByteArray × ByteArray)) (x1 x2 : ByteArray) (hv : MRow w v L) :
 Calls Tryz.prog 13 #[v, .agg #[.string x1, .string x2]] w fun e w' => e = .returned (.bool (hasM L (x1, x2))) ∧ Below w.heap.size w w' := by
 obtain ⟨a, c, rfl, h1, h2, h3⟩ := hv.ex
 obtain ⟨n, hn⟩ : ∃ n, L.length = n := ⟨_, rfl⟩
 rw [hn] at h1 ⊢
 have H3 := hid h3; have HN := hid hn
 have X := hid (Blk.new w #[.string x1, .string x2] 39)
 have B := hid ((Below.refl w.heap.size w).alloc (Nat.le_refl _) (.cells #[.string x1, .string x2] 39))
 clear hv h3 hn
 go_enter Tryz.func13, Tryz.ntmps13
 go_wp2_with fail
 go_loopw [5] (fun ii wr => ∃ i : Nat, ii = .int .i64 (i : Nat) ∧ i ≤ n ∧ Hid (∀ j, j < i → L[j]? ≠ some (x1, x2)) ∧ Hid (Blk wr w.heap.size #[.string x1, .string x2] 39) ∧ Hid (Below w.heap.size w wr)) (fun ii wr => n - (intOf ii).toNat)
 case atStart => exact ⟨0, rfl, Nat.zero_le _, fun j hj => absurd hj (by omega), X, B⟩
 case round =>
  obtain ⟨i, rfl, hi, hI, hX, hB⟩ := hrel
  by_cases hlt : i < n
  ·obtain ⟨y, hy⟩ : ∃ x, L[i]? = some x := ⟨_, List.getElem?_eq_getElem (by rw [HN.out]; exact hlt)⟩
   obtain ⟨g, o, rfl, hg, k1, k2⟩ := H3.out i y hy
   obtain ⟨y1, y2⟩ := y
   have HY := hid hy
   have m1 := (hB.out.cell (p := ⟨g, o + 2 * i, none⟩) hg).trans k1
   have m2 := (hB.out.cell (p := ⟨g, o + 2 * i + 1, none⟩) hg).trans k2
   have m3 := hX.out.cell 0
   have m4 := hX.out.cell 1
   simp at m3 m4
   dsimp only at m1 m2
   rw [Nat.mul_comm 2 i] at m1 m2
   have b1 : (0 : Int) ≤ (i : Int) := by omega
   have b2 : (i : Int) < (n : Int) := by omega
   have wi : IntKind.i64.wrap ((i : Int) + 1) = (i : Int) + 1 := by rw [IntWalk.i64_in _ ⟨by omega, by omega⟩]
   clear k1 k2 hy hg
   by_cases he : y1 = x1 ∧ y2 = x2
   ·obtain ⟨rfl, rfl⟩ := he
    have hmem : (y1, y2) ∈ L := List.mem_of_getElem? HY.out
    have HM := hid hmem
    clear hmem
    go_wp2_with fail
    refine held_plain [0, 1, 2, 3, 4, 5] 0 (fun w' => w'.cell? ⟨g, o + i * 2, none⟩ = some (.string y1) ∧ w'.cell? ⟨g, o + i * 2 + 1, none⟩ = some (.string y2) ∧ w'.cell? ⟨w.heap.size, 0, none⟩ = some (.string y1) ∧ w'.cell? ⟨w.heap.size, 1, none⟩ = some (.string y2)) (by kernel_rfl) (by kernel_rfl) (by kernel_rfl) (by kernel_rfl) ⟨m1, m2, m3, m4⟩ ?_
    iterate 6
     refine ⟨_, rfl, ?_⟩
     apply Exists.intro
     refine ⟨.inl ⟨by rfl, ?_⟩, ?_⟩
     ·(intro W' hW'; obtain ⟨q1, q2, q3, q4⟩ := hW'; go_simp; try (with_reducible rfl))
     (dsimp only [Act.put]; try simp only [List.setIfInBounds_toArray, List.set_cons_zero, List.set_cons_succ])
    refine wpAnyH_done (by kernel_rfl) ?_ _
    simp only [Only]
    go_wp2_with fail
    go_ret
    exact ⟨by rw [hasM_iff.2 HM.out]; rfl, hB.out.drew⟩
   ·have hne : ¬ ((y1, y2) : ByteArray × ByteArray) = (x1, x2) := by simpa using he
    have HNE := hid hne
    have hb : (decide (y1 = x1) && decide (y2 = x2)) = false := by
     rw [Bool.and_eq_false_iff, decide_eq_false_iff_not, decide_eq_false_iff_not]
     by_cases h : y1 = x1
     ·exact .inr fun h' => he ⟨h, h'⟩
     ·exact .inl h
    have fin : Hid (∀ j, j < i + 1 → L[j]? ≠ some (x1, x2)) := fun j hj => by
     rcases Nat.lt_or_ge j i with h | h
     ·exact hI.out j h
     ·obtain rfl : j = i := by omega
      rw [HY.out]; exact fun e => HNE.out (Option.some.inj e)
    clear he hne hb
    by_cases h1 : y1 = x1
    ·subst h1
     have n2 := ne_tl (show ¬ y2 = x2 from fun e => HNE.out (by rw [e]))
     go_wp2_with fail
     refine held_plain [0, 1, 2, 3, 4, 5] 0 (fun w' => w'.cell? ⟨g, o + i * 2, none⟩ = some (.string y1) ∧ w'.cell? ⟨g, o + i * 2 + 1, none⟩ = some (.string y2) ∧ w'.cell? ⟨w.heap.size, 0, none⟩ = some (.string y1) ∧ w'.cell? ⟨w.heap.size, 1, none⟩ = some (.string x2)) (by kernel_rfl) (by kernel_rfl) (by kernel_rfl) (by kernel_rfl) ⟨m1, m2, m3, m4⟩ ?_
     iterate 6
      refine ⟨_, rfl, ?_⟩
      apply Exists.intro
      refine ⟨.inl ⟨by rfl, ?_⟩, ?_⟩
      ·(intro W' hW'; obtain ⟨q1, q2, q3, q4⟩ := hW'; go_simp; try (with_reducible rfl))
      (dsimp only [Act.put]; try simp only [List.setIfInBounds_toArray, List.set_cons_zero, List.set_cons_succ])
     refine wpAnyH_done (by kernel_rfl) ?_ _
     simp only [Only]
     go_wp2_with fail
     go_roundw
     case rel => exact ⟨i + 1, rfl, by omega, fin, hX.out.drew, hB.out.drew⟩
     case measure => simp [intOf] <;> omega
    ·have n1 := ne_tl h1
     clear h1
     go_wp2_with fail
     refine held_plain [0, 1, 2, 3, 4, 5] 0 (fun w' => w'.cell? ⟨g, o + i * 2, none⟩ = some (.string y1) ∧ w'.cell? ⟨g, o + i * 2 + 1, none⟩ = some (.string y2) ∧ w'.cell? ⟨w.heap.size, 0, none⟩ = some (.string x1) ∧ w'.cell? ⟨w.heap.size, 1, none⟩ = some (.string x2)) (by kernel_rfl) (by kernel_rfl) (by kernel_rfl) (by kernel_rfl) ⟨m1, m2, m3, m4⟩ ?_
     iterate 6
      refine ⟨_, rfl, ?_⟩
      apply Exists.intro
      refine ⟨.inl ⟨by rfl, ?_⟩, ?_⟩
      ·(intro W' hW'; obtain ⟨q1, q2, q3, q4⟩ := hW'; go_simp; try (with_reducible rfl))
      (dsimp only [Act.put]; try simp only [List.setIfInBounds_toArray, List.set_cons_zero, List.set_cons_succ])
     refine wpAnyH_done (by kernel_rfl) ?_ _
     simp only [Only]
     go_wp2_with fail
     go_roundw
     case rel => exact ⟨i + 1, rfl, by omega, fin, hX.out.drew, hB.out.drew⟩
     case measure => simp [intOf] <;> omega
  ·obtain rfl : i = n := by omega
   have hE : hasM L (x1, x2) = false := by
    rw [Bool.eq_false_iff]
    intro hm
    rw [hasM_iff] at hm
    obtain ⟨j, hj⟩ := List.getElem?_of_mem hm
    exact hI.out j (by have := (List.getElem?_eq_some_iff.1 hj).1; rw [HN.out] at this; exact this) hj
   have HE := hid hE
   have q1 : decide ((i : Int) < (i : Int)) = false := by simp
   clear hlt hE
   go_wp2_with fail
   go_ret
   exact ⟨by rw [HE.out]; rfl, hB.out⟩
theorem info_bits : (Tryz.prog.info? 33).map (fun i => (i.zero, i.size, i.bytes)) = some (some (.string ⟨#[]⟩), 1, 16) := by kernel_rfl
def tb (l : List UInt8) : ByteArray := ⟨l.toArray⟩
theorem tb_size (l : List UInt8) : (tb l).size = l.length := by simp [tb, ByteArray.size]
theorem tb_snoc (l : List UInt8) (b : UInt8) : tb l ++ (⟨#[b]⟩ : ByteArray) = tb (l ++ [b]) := by
 apply ba_ext
 simp [tb]
def nextW (L : List (List UInt8)) : List (List UInt8) := L.flatMap fun l => [l ++ [48], l ++ [49]]
theorem nextW_snoc (L : List (List UInt8)) (l : List UInt8) : nextW (L ++ [l]) = nextW L ++ [l ++ [48], l ++ [49]] := by simp [nextW]
theorem r3_All (w : World) (n : Nat) (hn : n ≤ 12) :
 Calls Tryz.prog 11 #[.int .i64 (n : Nat)] w fun e w' => (∃ v, e = .returned (.tuple #[v, .int .i64 0]) ∧ Row w' v (strs ((allW n).map tb))) ∧ Below w.heap.size w w' := by
 obtain ⟨i0, hi, hz0, hz1, hz2⟩ := info_parts info_bits
 have t1 : decide ((n : Int) < 0) = false := by simp
 have t2 : decide ((12 : Int) < (n : Int)) = false := by simp; omega
 have R0 : Row (w.alloc (.cells #[.string ⟨#[]⟩] 33)) (.slice (some ⟨w.heap.size, 0, none⟩) 1 1) (strs ((allW 0).map tb)) :=
  Row.of_blk (n := 1) (Blk.new w _ _) rfl (by decide) (fun i x h => by
   rcases i with _ | i
   ·simp [allW, strs, tb] at h ⊢; exact h
   ·simp [allW, strs, tb] at h) (Nat.le_refl 1) (by decide)
 have HR0 := hid R0
 have B0 := hid ((Below.refl w.heap.size w).alloc (Nat.le_refl _) (.cells #[.string ⟨#[]⟩] 33))
 clear R0
 go_enter Tryz.func11, Tryz.ntmps11
 go_wp2_with fail
 go_loopw [0, 4] (fun s0 s4 wr => ∃ j : Nat, j ≤ n ∧ s0 = .int .i64 ((n - j : Nat) : Int) ∧ Hid (Row wr s4 (strs ((allW j).map tb))) ∧ Hid (Below w.heap.size w wr)) (fun s0 s4 wr => (intOf s0).toNat)
 case atStart => exact ⟨0, Nat.zero_le _, rfl, HR0, B0⟩
 case round =>
  obtain ⟨j, hj, rfl, hR, hB⟩ := hrel
  by_cases hlt : j < n
  ·have q1 : decide (0 < n - j) = true := by simp; omega
   have hp : 2 ^ j ≤ 4096 := Nat.le_trans (Nat.pow_le_pow_right (by omega) (show j ≤ 12 by omega)) (by decide)
   have hlen : ((allW j).map tb).length = 2 ^ j := by rw [List.length_map, allW_length]
   obtain ⟨m, hm⟩ : ∃ m, 2 ^ j = m := ⟨_, rfl⟩
   rw [hm] at hp hlen
   obtain ⟨a, c, rfl, c1, c2, -⟩ := hR.out.openS
   rw [hlen] at hR c1 ⊢
   have HLN := hid hlen
   have q2 : (0 : Int) < ((n - j : Nat) : Int) := by omega
   have wn : IntKind.i64.wrap (((n - j : Nat) : Int) - 1) = ((n - (j + 1) : Nat) : Int) := by rw [IntWalk.i64_in _ ⟨by omega, by omega⟩]; omega
   have HWN := hid wn
   obtain ⟨wo, hwo⟩ : ∃ wo : World, wo = wr := ⟨_, rfl⟩
   subst hwo
   have HBO := hid hB.out.size
   clear hlen hm wn
   go_wp2_with fail
   clear q1
   go_loopw [5, 6] (fun s5 s6 wr => ∃ i : Nat, i ≤ m ∧ s6 = .int .i64 (i : Nat) ∧ Hid (wr.ownsRow wo.heap.size 33 1 s5 (2 * i) (strs ((nextW ((allW j).take i)).map tb))) ∧ Hid (Below wo.heap.size wo wr)) (fun s5 s6 wr => m - (intOf s6).toNat)
   case atStart => exact ⟨0, Nat.zero_le _, rfl, ⟨rfl, .inl ⟨rfl, rfl⟩⟩, Below.refl _ _⟩
   case round =>
    obtain ⟨i, hi2, rfl, hO, hB2⟩ := hrel
    by_cases hlt2 : i < m
    ·obtain ⟨l, hl⟩ : ∃ l, (allW j)[i]? = some l := ⟨_, List.getElem?_eq_getElem (by have := HLN.out; rw [List.length_map] at this; omega)⟩
     have hll := allW_len (List.mem_of_getElem? hl)
     obtain ⟨g, o, rfl, hg, hc⟩ := hR.out.at (strs_get (show ((allW j).map tb)[i]? = some (tb l) by rw [List.getElem?_map, hl]; rfl))
     have hc2 := (hB2.out.cell (p := ⟨g, o + i, none⟩) hg).trans hc
     have hsz : ¬ 9223372036854775807 < (tb l).size + 1 := by rw [tb_size]; omega
     have HX : Hid ((allW j).take (i + 1) = (allW j).take i ++ [l]) := by show (allW j).take (i + 1) = _; rw [List.take_add_one, hl]; rfl
     have b1 : (0 : Int) ≤ (i : Int) := by omega
     have b2 : (i : Int) < (m : Int) := by omega
     have wi : IntKind.i64.wrap ((i : Int) + 1) = ((i + 1 : Nat) : Int) := by rw [IntWalk.i64_in _ ⟨by omega, by omega⟩]; omega
     have e1 := hid (tb_snoc l 48)
     have e2 := hid (tb_snoc l 49)
     have KK : Hid (∀ w', Below wr.heap.size wr w' → w'.cell? ⟨g, o + i, none⟩ = some (.string (tb l))) := fun w' hb => (hb.cell (p := ⟨g, o + i, none⟩) (Nat.lt_of_lt_of_le hg hB2.out.size)).trans hc2
     obtain ⟨X, hX⟩ : ∃ X, tb l = X := ⟨_, rfl⟩
     rw [hX] at hc2 hsz e1 e2 KK
     clear hl hll hc hX
     go_wp2_with fail
     refine held_plain [0, 1, 2, 3, 4, 5, 6, 7, 8, 9, 10] 3 (fun w' => w'.cell? ⟨g, o + i, none⟩ = some (.string X)) (by kernel_rfl) (by kernel_rfl) (by kernel_rfl) (by kernel_rfl) (KK.out _ (Below.refl _ _).drew) ?_
     iterate 11
      refine ⟨_, rfl, ?_⟩
      apply Exists.intro
      refine ⟨.inl ⟨by rfl, ?_⟩, ?_⟩
      ·(intro W' hW'; obtain q1 := hW'; go_simp; try (with_reducible rfl))
      (dsimp only [Act.put]; try simp only [List.setIfInBounds_toArray, List.set_cons_zero, List.set_cons_succ])
     refine held_one (i := 11) (by kernel_rfl) (by rfl) (by rfl) ?_
     go_wp2_with fail
     refine ⟨KK.out _ ((Below.refl _ _).drew.alloc (Nat.le_refl _) _), ?_⟩
     refine held_one (i := 12) (by kernel_rfl) (by rfl) (by rfl) ?_
     have cells : ∀ j u, [Value.string (X ++ ⟨#[48]⟩), .string (X ++ ⟨#[49]⟩)][j]? = some u → (wr.alloc (.cells #[.string (X ++ ⟨#[48]⟩), .string (X ++ ⟨#[49]⟩)] 33)).drew.cell? ((⟨wr.heap.size, 0, none⟩ : Addr).add j) = some u := cell_two_new wr _ _ 33
     refine wpList_append_own _ rfl _ _ 30 rfl wo.heap.size 33 i0 (.string ⟨#[]⟩) 1 16 Tryz.underlying30 hi hz0 hz1 hz2 rfl (by decide) _ (2 * i) _ rfl (hO.out.alloc _) ⟨wr.heap.size, 0, none⟩ 2 2 [.string (X ++ ⟨#[48]⟩), .string (X ++ ⟨#[49]⟩)] rfl rfl cells (by simp [Value.oneCell']) (by unfold maxLen; omega) (by omega) (by have := hB2.out.size; simp; omega) ?_
     intro v' w3 hown3 hgrow3 _
     have hO3 := hid (show w3.ownsRow wo.heap.size 33 1 v' (2 * (i + 1)) (strs ((nextW ((allW j).take (i + 1))).map tb)) by
      rw [HX.out, nextW_snoc, List.map_append, strs_append]
      have h2 : strs ([l ++ [48], l ++ [49]].map tb) = [.string (X ++ ⟨#[48]⟩), .string (X ++ ⟨#[49]⟩)] := by
       rw [e1.out, e2.out]; rfl
      rw [h2]
      exact hown3)
     have hB3 : Hid (Below wo.heap.size wo w3) := by
      refine ((hB2.out.alloc hB2.out.size _).drew).trans ⟨hgrow3.os, hgrow3.tape, hgrow3.output, hgrow3.size, fun k hk => hgrow3.block k (by have := hB2.out.size; simp; omega) (fun e => ?_)⟩
      have := (hO.out.lt k e.symm).1
      omega
     have m0 : w3.cell? ⟨g, o + i, none⟩ = some (.string X) := (hB3.out.cell (p := ⟨g, o + i, none⟩) hg).trans ((hB2.out.cell (p := ⟨g, o + i, none⟩) hg).symm.trans hc2)
     clear hown3 hgrow3 cells
     go_wp2_with fail
     refine ⟨m0, ?_⟩
     refine held_more (is := [13]) (g := 0) (by kernel_rfl) rfl m0 (by kernel_rfl) ?_
     iterate 1
      refine ⟨_, rfl, ?_⟩
      apply Exists.intro
      refine ⟨.inl ⟨by rfl, ?_⟩, ?_⟩
      ·(intro W' hW'; obtain q1 := hW'; go_simp; try (with_reducible rfl))
      (dsimp only [Act.put]; try simp only [List.setIfInBounds_toArray, List.set_cons_zero, List.set_cons_succ])
     refine wpAnyH_done (by kernel_rfl) ?_ _
     simp only [Only]
     go_wp2_with fail
     go_roundw
     case rel => exact ⟨i + 1, by omega, by go_num, hO3, hB3⟩
     case measure => simp [intOf] <;> omega
    ·obtain rfl : i = m := by omega
     have q1 : decide ((i : Int) < (i : Int)) = false := by simp
     have h := hO.out
     rw [List.take_of_length_le (by have := HLN.out; rw [List.length_map] at this; omega)] at h
     have hrow := hid (show Row _ _ (strs ((allW (j + 1)).map tb)) from Row.of_owns h)
     have hB3 := hid (hB.out.trans (hB2.out.mono HBO.out))
     have wn := HWN.out
     clear hlt2 h
     go_wp2_with fail
     go_roundw
     case rel => exact ⟨j + 1, by omega, rfl, hrow, hB3⟩
     case measure => simp [intOf] <;> omega
  ·obtain rfl : j = n := by omega
   have q1 : decide (((j - j : Nat) : Int) > 0) = false := by simp
   have q2 : ((j - j : Nat) : Int) = 0 := by simp
   obtain ⟨a, c, rfl, -⟩ := hR.out.openS
   clear hlt
   go_wp2_with fail
   go_ret2
   exact ⟨⟨_, rfl, hR.out⟩, hB.out⟩
end Go.Proofs.YtlmnpocifldpmaaGreatDoor
namespace Go.Proofs
open Go.Shelf
def Tryz.lays212_ren : Go.Shelf.Ren := ⟨fun | 212 => 96 | 263 => 158 | 264 => 159 | n => n, fun | 46 => 125 | 51 => 175 | 146 => 176 | 53 => 151 | 148 => 178 | n => n, fun | n => n⟩
theorem Tryz.lays212 : Go.Proofs.Lays.n212 Tryz.prog Tryz.lays212_ren := {
 mixed := by kernel_rfl
 f212 := Tryz.func96.trans (congrArg some (by kernel_rfl))
 f263 := Tryz.func158.trans (congrArg some (by kernel_rfl))
 f264 := Tryz.func159.trans (congrArg some (by kernel_rfl))
 t46 := Tryz.underlying125
 a46 := Tryz.isAgg125
 z46 := Tryz.sizeOf125
 v46 := Tryz.zeroValue125
 t51 := Tryz.underlying175
 a51 := Tryz.isAgg175
 z51 := Tryz.sizeOf175
 v51 := Tryz.zeroValue175
 t53 := Tryz.underlying151
 a53 := Tryz.isAgg151
 z53 := Tryz.sizeOf151
 v53 := Tryz.zeroValue151
 t146 := Tryz.underlying176
 a146 := Tryz.isAgg176
 z146 := Tryz.sizeOf176
 v146 := Tryz.zeroValue176
 t148 := Tryz.underlying178
 a148 := Tryz.isAgg178
 z148 := Tryz.sizeOf178
 v148 := Tryz.zeroValue178 }
open Go.RowKit Go.Lib in
theorem Tryz.bits_Mul (x y : Nat) (hx : x < 18446744073709551616) (hy : y < 18446744073709551616) (w : World) :
 Calls Tryz.prog 96 #[.int .u64 x, .int .u64 y] w fun e w' => e = .returned (.tuple #[.int .u64 ((x * y / 18446744073709551616 : Nat) : Int), .int .u64 ((x * y % 18446744073709551616 : Nat) : Int)]) ∧ w' = w := Any.bits_Mul Tryz.lays212 x y hx hy w
end Go.Proofs
namespace Go.Proofs.YtlmnpocifldpmaaGreatDoor
open Go.RowKit
def strsR (l : List ByteArray) : List Value := l.map Value.string
@[simp] theorem strsR_length (l : List ByteArray) : (strsR l).length = l.length := by simp [strsR]
theorem strsR_get {l : List ByteArray} {i : Nat} {s : ByteArray} (h : l[i]? = some s) : (strsR l)[i]? = some (.string s) := by simp [strsR, h]
theorem strsR_one (l : List ByteArray) : ∀ u ∈ strsR l, u.oneCell' = true := by
 intro u hu
 obtain ⟨x, _, rfl⟩ := List.mem_map.1 hu
 rfl
theorem make_strsR (n : Nat) (h : n ≤ 1000000) (W : World) : (Instr.makeSlice 71 (.int .i64 (n : Int)) (.int .i64 (n : Int))).run Tryz.prog W = .ok (.slice (some ⟨W.heap.size, 0, none⟩) n n) (W.alloc (.cells (madeCells #[.string ⟨#[]⟩] n) 22)) :=
 run_make_row' (P := Tryz.prog) 71 22 (.string ⟨#[]⟩) 16 Tryz.underlying71 (by kernel_rfl) rfl .i64 .i64 n (by omega) (by omega) W
theorem made_strsR (n : Nat) : madeCells #[.string ⟨#[]⟩] n = (strsR (List.replicate n ⟨#[]⟩)).toArray := by
 apply Array.ext_getElem?
 intro i
 unfold madeCells strsR
 by_cases hi : i < n <;> simp [hi, Nat.mod_one]
def repS (s : ByteArray) (n k : Nat) : List Value := strsR (List.replicate k s ++ List.replicate (n - k) ⟨#[]⟩)
theorem repS_splice {s : ByteArray} {n k m : Nat} (h : k + m ≤ n) : splice (repS s n k) k (strsR (List.replicate m s)) = repS s n (k + m) := by
 unfold splice repS strsR
 simp only [List.map_append, List.map_replicate, List.length_replicate]
 rw [List.take_append_of_le_length (by simp), List.take_of_length_le (by simp), List.drop_append, List.drop_of_length_le (by simp), List.nil_append, List.length_replicate, List.drop_replicate, ← List.append_assoc, List.replicate_append_replicate]
 rw [show n - k - (k + m - k) = n - (k + m) by omega]
theorem s_Repeat (w : World) (g0 n : Nat) (s : ByteArray) (h1 : 1 ≤ n) (h2 : n ≤ 100000) (hc : w.cell? ⟨g0, 0, none⟩ = some (.string s)) :
 Calls Tryz.prog 36 #[.slice (some ⟨g0, 0, none⟩) 1 1, .int .i64 n] w fun e w' =>
  e = .returned (.slice (some ⟨w.heap.size, 0, none⟩) n n) ∧ Blk w' w.heap.size (strsR (List.replicate n s)).toArray 22 ∧ Below w.heap.size w w' := by
 have HM := fun W => hid (make_strsR n (by omega) W)
 have HB := fun W => hid (Tryz.bits_Mul 1 n (by omega) (by omega) W)
 have e1 : (((1 * n / 18446744073709551616 : Nat)) : Int) = 0 := by
  rw [Nat.one_mul, Nat.div_eq_of_lt (by omega)]; rfl
 have e2 : (((1 * n % 18446744073709551616 : Nat)) : Int) = (n : Int) := by
  rw [Nat.one_mul, Nat.mod_eq_of_lt (by omega)]
 rw [e1, e2] at HB
 have hn0 : (0 : Int) ≤ (n : Int) := by omega
 have hn1 : (n : Int) ≤ 100000 := by omega
 have q0 : decide ((n : Int) < 0) = false := by simp
 have hsrc : ∀ j v, (strsR [s])[j]? = some v → w.cell? ((⟨g0, 0, none⟩ : Addr).add j) = some v := by
  intro j v hj
  rcases j with _ | j
  ·simp [strsR] at hj; rw [← hj]; exact hc
  ·simp [strsR] at hj
 have HSRC := hid hsrc; have H1 := hid h1; have H2 := hid h2
 clear e1 e2 hsrc hc h1 h2
 go_enter Tryz.func36, Tryz.ntmps36
 go_wp2_with fail
 refine (HB _).out.mono ?_; rintro e w1 ⟨rfl, rfl⟩
 clear HB
 have HM1 := (HM w1).out
 have hc1 : (w1.alloc (.cells (madeCells #[.string ⟨#[]⟩] n) 22)).heap[w1.heap.size]? = some (.cells (repS s n 0).toArray 22 (0, 0)) := by
  have := Blk.new w1 (madeCells #[.string ⟨#[]⟩] n) 22
  rw [made_strsR] at this ⊢
  simpa [repS, Blk] using this
 have hc2 : (strsR [s]).length = Nat.min 1 n := (Nat.min_eq_left H1.out).symm
 have hc3 : ∀ j v, (strsR [s])[j]? = some v → (w1.alloc (.cells (madeCells #[.string ⟨#[]⟩] n) 22)).cell? ((⟨g0, 0, none⟩ : Addr).add j) = some v := fun j v h =>
  have h2 := HSRC.out j v h
  (((Below.refl w1.heap.size w1).alloc (Nat.le_refl _) _).cell (cell_lt h2)).trans h2
 have hc4 : 0 + (strsR [s]).length ≤ (repS s n 0).length := by simp [strsR, repS]; have := H1.out; omega
 have hc5 := (Below.refl w1.heap.size w1).alloc (Nat.le_refl _) (.cells (madeCells #[.string ⟨#[]⟩] n) 22)
 have C1 := hid hc1; have C2 := hid hc2; have C3 := hid hc3; have C4 := hid hc4; have C5 := hid hc5
 have hsp : splice (repS s n 0) 0 (strsR [s]) = repS s n 1 := by
  have := repS_splice (s := s) (n := n) (k := 0) (m := 1) (by have := H1.out; omega)
  simpa using this
 have HSP := hid hsp
 clear hc1 hc2 hc3 hc4 hc5 HM hsp
 go_wp2_with (refine wpList_copy_splice rfl (.tmp 31) (.tmp 32) 71 71 rfl 22 Tryz.underlying71 (by kernel_rfl) (some ⟨w1.heap.size, 0, none⟩) (some ⟨g0, 0, none⟩) n n 1 1 rfl rfl w1.heap.size 0 (repS s n 0) 22 C1.out (strsR [s]) C2.out (fun _ => ⟨rfl, _, rfl, C3.out⟩) C4.out (strsR_one _) w1.heap.size w1 C5.out (Nat.le_refl _) ?_; intro w2 hg2 hb2)
 rw [HSP.out] at hg2
 have G2 := hid (show Blk w2 w1.heap.size (repS s n 1).toArray 22 from hg2.out); have B2 := hid hb2
 obtain ⟨H, hH⟩ : ∃ H, w1.heap.size = H := ⟨_, rfl⟩
 rw [hH] at G2 B2 ⊢
 clear hg2 hb2 HM1 C1 C2 C3 C4 C5 HSP HSRC
 have HH := hid hH
 clear hH
 go_loopw [8] (fun i wr => ∃ k : Nat, i = .int .i64 (k : Nat) ∧ 1 ≤ k ∧ k ≤ n ∧ Hid (Blk wr H (repS s n k).toArray 22) ∧ Hid (Below H w1 wr)) (fun i wr => n - (intOf i).toNat)
 case atStart => exact ⟨1, rfl, Nat.le_refl _, H1.out, G2.out, B2.out⟩
 case round =>
  obtain ⟨k, rfl, hk1, hk2, hG, hB⟩ := hrel
  by_cases hlt : k < n
  ·have f0 : (0 : Int) ≤ (k : Int) := by omega
   have f1 : (k : Int) < (n : Int) := by omega
   have f2 : (k : Int) ≤ (n : Int) := by omega
   have K1 := hid hk1; have K2 := hid hlt
   clear hk1 hk2
   go_wp2_with fail
   refine held_plain [0, 1, 2, 3, 4, 5, 6] 3 (fun _ => True) (by kernel_rfl) (by kernel_rfl) (by kernel_rfl) (by kernel_rfl) trivial ?_
   iterate 7
    refine ⟨_, rfl, ?_⟩
    apply Exists.intro
    refine ⟨.inl ⟨by rfl, ?_⟩, ?_⟩
    ·(intro W' hW'; clear hW'; go_simp; try (with_reducible rfl))
    (dsimp only [Act.put]; try simp only [List.setIfInBounds_toArray, List.set_cons_zero, List.set_cons_succ])
   refine held_one (i := 7) (by kernel_rfl) (by rfl) (by rfl) ?_
   obtain ⟨m, hm⟩ : ∃ m, Nat.min k (n - k) = m := ⟨_, rfl⟩
   have hm1 : m ≤ k := hm ▸ Nat.min_le_left _ _
   have hm2 : m ≤ n - k := hm ▸ Nat.min_le_right _ _
   have hm3 : 1 ≤ m := by rw [← hm]; exact Nat.le_min.2 ⟨K1.out, by omega⟩
   have hsrc : ∀ j v, (strsR (List.replicate m s))[j]? = some v → wr.drew.cell? ((⟨H, 0, none⟩ : Addr).add j) = some v := fun j v hj => by
    rw [Addr.add_lit, Nat.zero_add]
    have hjm : j < m := by
     have := (List.getElem?_eq_some_iff.1 hj).1
     simpa using this
    have hv : v = .string s := by
     rw [strsR_get (s := s) (by rw [List.getElem?_replicate, if_pos hjm])] at hj
     cases hj; rfl
    rw [hv]
    refine (Blk.cell (Blk.drew hG.out) j).trans ?_
    rw [List.getElem?_toArray]
    exact strsR_get (by rw [List.getElem?_append_left (by simp; omega), List.getElem?_replicate, if_pos (by omega)])
   rw [if_neg (show ¬ n = k by have := K2.out; omega)]
   refine wpList_copy_splice rfl (.tmp 41) (.tmp 44) 71 71 rfl 22 Tryz.underlying71 (by kernel_rfl) (some ⟨H, k, none⟩) (some ⟨H, 0, none⟩) (n - k) (n - k) k n rfl rfl H k (repS s n k) 22 hG.out (strsR (List.replicate m s)) (by simp [hm]) (fun _ => ⟨rfl, _, rfl, hsrc⟩) (by simp [repS, strsR] <;> omega) (strsR_one _) H w1 (hB.out.drew) (Nat.le_refl _) ?_
   intro w4 hg4 hb4
   rw [show (strsR (List.replicate m s)).length = m by simp]
   rw [repS_splice (by omega)] at hg4
   have G4 := hid (show Blk w4 H (repS s n (k + m)).toArray 22 from hg4.out); have B4 := hid hb4
   have M2 := hid hm2; have M3 := hid hm3
   have f5 : (0 : Int) ≤ (m : Int) := by omega
   have f6 : (m : Int) ≤ 100000 := by omega
   have ew : IntKind.i64.wrap ((k : Int) + (m : Int)) = (k : Int) + (m : Int) := by rw [IntWalk.i64_in _ ⟨by omega, by omega⟩]
   clear hm hm1 hm2 hm3 hsrc hg4 hb4
   go_wp2_with fail
   refine ⟨trivial, ?_⟩
   refine held_more (is := [8, 9]) (g := 0) (by kernel_rfl) rfl trivial (by kernel_rfl) ?_
   iterate 2
    refine ⟨_, rfl, ?_⟩
    apply Exists.intro
    refine ⟨.inl ⟨by rfl, ?_⟩, ?_⟩
    ·(intro W' hW'; clear hW'; go_simp; try (with_reducible rfl))
    (dsimp only [Act.put]; try simp only [List.setIfInBounds_toArray, List.set_cons_zero, List.set_cons_succ])
   refine wpAnyH_done (by kernel_rfl) ?_ _
   simp only [Only]
   go_wp2_with fail
   go_roundw
   case rel => exact ⟨k + m, by rw [Int.natCast_add], by have := M3.out; omega, by have := M2.out; have := K2.out; omega, G4, B4⟩
   case measure => simp [intOf] <;> (have := M3.out; have := K2.out; omega)
  ·have e1 : k = n := by omega
   subst e1
   go_wp2_with fail
   go_ret
   have hh := HH.out
   subst hh
   refine ⟨rfl, ?_, hB.out⟩
   have := hG.out
   simpa [repS] using this
open Go.Lib (decDigits nDigits)
theorem p_plus (V : World) (x y : Nat) (hx : nDigits x ≤ 4000) (hy : nDigits y ≤ 4000) (h : nDigits (x + y) ≤ 4000) (hL : Lay V) : Calls Tryz.prog 206 #[.string (numB x), .string (numB y)] V fun e w' => e = .returned (.string (numB (x + y))) ∧ Below V.heap.size V w' := by
 have h2 := g_plus V (numB x) (numB y) (numB_sz hx) (numB_sz hy) hL
 rwa [natB_num hx hy h] at h2
theorem p_times (V : World) (x y : Nat) (hx : nDigits x ≤ 4000) (hy : nDigits y ≤ 4000) (h : nDigits (x * y) ≤ 4000) (hL : Lay V) : Calls Tryz.prog 207 #[.string (numB x), .string (numB y)] V fun e w' => e = .returned (.string (numB (x * y))) ∧ Below V.heap.size V w' := by
 have h2 := g_times V (numB x) (numB y) (numB_sz hx) (numB_sz hy) hL
 rwa [natB_num hx hy h] at h2
theorem p_cmp (V : World) (x y : Nat) (hx : nDigits x ≤ 4000) (hy : nDigits y ≤ 4000) : Calls Tryz.prog 257 #[.string (numB x), .string (numB y)] V fun e w' => e = .returned (.int .i64 (ordN x y)) ∧ Below V.heap.size V w' := by
 have h2 := n_Cmp V (numB x) (numB y) (numB_sz hx) (numB_sz hy)
 rwa [cmpN_num hx hy] at h2
theorem p_sub (V : World) (x y : Nat) (hx : nDigits x ≤ 4000) (hy : nDigits y ≤ 4000) (h : y ≤ x) (hL : Lay V) : Calls Tryz.prog 209 #[.string (numB x), .string (numB y)] V fun e w' => e = .returned (.tuple #[.string (numB (x - y)), .int .i64 0]) ∧ Below V.heap.size V w' := by
 have h2 := n_Sub V (numB x) (numB y) (numB_sz hx) (numB_sz hy) hL
 have h3 : ¬ 4000 < nDigits (x - y) := by have := nDigits_mono (show x - y ≤ x by omega); omega
 have e1 : pairB (subB (bN (numB x)) (bN (numB y))) (numB x) (numB y) = numB (x - y) := by
  rw [bN_num, bN_num, pairB, if_pos ⟨errN_numB hx, errN_numB hy⟩, subB, if_neg (by omega), resB, if_neg h3]
 have e2 : pairE (subE (bN (numB x)) (bN (numB y))) (numB x) (numB y) = 0 := by
  rw [bN_num, bN_num, pairE, if_pos (errN_numB hx), if_pos (errN_numB hy), subE, if_neg (by omega), resE, if_neg h3]
 rwa [e1, e2] at h2
theorem make_bools (n : Nat) (h : n ≤ 1000000) (W : World) : (Instr.makeSlice 268 (.int .i64 (n : Int)) (.int .i64 (n : Int))).run Tryz.prog W = .ok (.slice (some ⟨W.heap.size, 0, none⟩) n n) (W.alloc (.cells (madeCells #[.bool false] n) 4)) :=
 run_make_row' (P := Tryz.prog) 268 4 (.bool false) 1 Tryz.underlying268 (by kernel_rfl) rfl .i64 .i64 n (by omega) (by omega) W
theorem made_bools (f : Nat → Bool) (n : Nat) : madeCells #[.bool false] (n + 1) = (tabL f n 0).toArray := by
 rw [tabL_zero]
 apply Array.ext_getElem?
 intro i
 unfold madeCells
 by_cases hi : i < n + 1 <;> simp [hi, Nat.mod_one]
def TwoB (w : World) (H n : Nat) (v u : Value) (f g : List Value) : Prop := ∃ g1 g2, v = .slice (some ⟨g1, 0, none⟩) (n + 1) (n + 1) ∧ u = .slice (some ⟨g2, 0, none⟩) (n + 1) (n + 1) ∧ g1 ≠ g2 ∧ H ≤ g1 ∧ H ≤ g2 ∧ Blk w g1 f.toArray 4 ∧ Blk w g2 g.toArray 4
def SidesOut (w : World) (n N D : Nat) (e : Ending) (w' : World) : Prop := ∃ v u, e = .returned (.tuple #[v, u]) ∧ TwoB w' w.heap.size n v u (allB (oneJ N D) n) (allB (zeroJ N D) n)
theorem lit_zero : ((⟨#[48]⟩ : ByteArray).toList == [48]) = true := by
 rw [Lib.toList_data]; rfl
theorem g_sides (w : World) (a : ByteArray) (n N D : Nat) (ha : a.size ≤ 100000) (he : gPE a = 0) (hn : n ≤ 1000) (hN : bN (cW a) = N) (hD : bN (qD a) = D) (hND : N < D) (hL : Lay w) :
 Calls Tryz.prog 258 #[.string a, .int .i64 n] w fun e w' => SidesOut w n N D e w' ∧ Below w.heap.size w w' := by
 have HR := hid (g_ratio w a ha hL)
 obtain ⟨c1, c2, c3, c4, -⟩ := cPE_ok (gPE_ok he).1
 rw [if_pos he, if_pos he, he] at HR
 rw [c1, c2, hN, hD] at HR
 rw [hN] at c3
 rw [hD] at c4
 have dN : ∀ x, x < 10 ^ (eN + 1) → nDigits x ≤ 4000 := fun x h => numB_small h (by omega) (by unfold eN; omega)
 have hM := fun W => hid (make_bools (n + 1) (by omega) W)
 have HL := hid hL; have HLL := hid hL.lt; have HND := hid hND; have DN := hid dN; have C4 := hid c4; have C3 := hid c3; have HN := hid hn
 have wn : IntKind.i64.wrap ((n : Int) + 1) = ((n + 1 : Nat) : Int) := by rw [IntWalk.i64_in _ ⟨by omega, by omega⟩]; omega
 obtain ⟨sN, hsN⟩ : ∃ s, numB N = s := ⟨_, rfl⟩
 obtain ⟨sD, hsD⟩ : ∃ s, numB D = s := ⟨_, rfl⟩
 rw [hsN, hsD] at HR
 have HSN := hid hsN; have HSD := hid hsD
 clear ha he hn hN hD hND hL c1 c2 c3 c4 dN hsN hsD
 go_enter Tryz.func258, Tryz.ntmps258
 go_wp2_with fail
 refine HR.out.mono ?_; rintro e w1 ⟨rfl, hb1⟩
 have B1 := hid hb1
 clear hb1 HR
 go_upto_region 2 with fail
 go_cut [4, 5] (fun s4 s5 wx => TwoB wx w.heap.size n s4 s5 (tabL (oneJ N D) n 0) (tabL (zeroJ N D) n 0) ∧ Below w.heap.size w wx)
 case first =>
  have X := fun (g1 g2 : Nat) (W : World) (h1 : Blk W g1 (madeCells #[.bool false] (n + 1)) 4) (h2 : Blk W g2 (madeCells #[.bool false] (n + 1)) 4) (h3 : g1 ≠ g2) (h4 : w.heap.size ≤ g1) (h5 : w.heap.size ≤ g2) => hid (show TwoB W w.heap.size n (.slice (some ⟨g1, 0, none⟩) (n + 1) (n + 1)) (.slice (some ⟨g2, 0, none⟩) (n + 1) (n + 1)) (tabL (oneJ N D) n 0) (tabL (zeroJ N D) n 0) from ⟨g1, g2, rfl, rfl, h3, h4, h5, by rw [← made_bools]; exact h1, by rw [← made_bools]; exact h2⟩)
  have M1 : ∀ W, (Instr.makeSlice 268 (.int .i64 ((n : Int) + 1)) (.int .i64 ((n : Int) + 1))).run Tryz.prog W = .ok (.slice (some ⟨W.heap.size, 0, none⟩) (n + 1) (n + 1)) (W.alloc (.cells (madeCells #[.bool false] (n + 1)) 4)) := fun W => (hM W).out
  clear hM
  go_region
  all_goals
   go_wp2_with fail
   go_meet
   first
    | exact ⟨(X w1.heap.size (w1.heap.size + 1) _ ((Blk.new w1 _ _).alloc _) (Blk.made _ _ _ (by simp)) (by omega) B1.out.size (by have := B1.out.size; omega)).out, (((B1.out.alloc B1.out.size _).alloc (by have := B1.out.size; simp; omega) _)).drew⟩
    | exact ⟨(X (w1.heap.size + 1) w1.heap.size _ (Blk.made _ _ _ (by simp)) ((Blk.new w1 _ _).alloc _) (by omega) (by have := B1.out.size; omega) B1.out.size).out, (((B1.out.alloc B1.out.size _).alloc (by have := B1.out.size; simp; omega) _)).drew⟩
 case rest =>
  obtain ⟨⟨g1, g2, rfl, rfl, h3, h4, h5, hb1, hb2⟩, hB⟩ := hcut
  have G1 := hid hb1; have G2 := hid hb2; have B2 := hid hB; have H3 := hid h3; have H4 := hid h4; have H5 := hid h5
  have k0 : wc.cell? ⟨g2, 0, none⟩ = some (.bool false) := by
   refine (hb2.cell 0).trans ?_
   rw [List.getElem?_toArray, tabL_get (Nat.zero_le _)]; simp
  have k1 := hb2.free 0
  have z0 : (0 : Int) < ((n + 1 : Nat) : Int) := by omega
  have z1 : (0 : Int) < (n : Int) + 1 := by omega
  obtain ⟨z, hz⟩ : ∃ z, (sN.toList == [48]) = z := ⟨_, rfl⟩
  have HZ : Hid (z = decide (N = 0)) := by
   show z = decide (N = 0)
   rw [← hz]
   by_cases h0 : N = 0
   ·rw [← HSN.out, h0, numB_zero, lit_zero]; simp
   ·rw [← HSN.out, ne_lit (l := [48]) (by rw [← numB_zero]; exact numB_ne h0)]
    simp [h0]
  clear hb1 hb2 hB hM h3 h4 h5
  go_wp2_with fail
  obtain ⟨W3, hW3⟩ : ∃ W, wc.setCell ⟨g2, 0, none⟩ (.bool z) = W := ⟨_, rfl⟩
  have G3 : Blk W3 g1 (tabL (oneJ N D) n 1).toArray 4 := by
   rw [← hW3, tabL_skip (f := oneJ N D) (j := 0) rfl]
   exact G1.out.other (fun e => H3.out e.symm) _
  have G4 : Blk W3 g2 (tabL (zeroJ N D) n 1).toArray 4 := by
   have h := G2.out.set 0 (.bool z)
   rw [hW3, List.setIfInBounds_toArray, HZ.out] at h
   have h2 := tabL_set (f := zeroJ N D) (n := n) (j := 0) (Nat.zero_le _)
   rw [← h2]
   exact h
  have B3 : Below w.heap.size w W3 := by rw [← hW3]; exact B2.out.setCell H5.out _
  rw [hW3]
  have HG3 := hid G3; have HG4 := hid G4; have HB3 := hid B3
  have e0 : Hid ((!z) = (sdx N D 0).2) := by show (!z) = _; rw [HZ.out]; simp [sdx]
  clear k0 k1 hz z0 z1 G3 G4 B3 hW3 G1 G2 B2 B1
  go_loopw [9, 10, 11] (fun o x j wr => ∃ i : Nat, j = .int .i64 ((i + 1 : Nat) : Int) ∧ i ≤ n ∧ o = .bool (sdx N D i).2 ∧ x = .string (numB (sdx N D i).1) ∧ Hid (Blk wr g1 (tabL (oneJ N D) n (i + 1)).toArray 4) ∧ Hid (Blk wr g2 (tabL (zeroJ N D) n (i + 1)).toArray 4) ∧ Hid (Below w.heap.size w wr)) (fun o x j wr => n + 1 - (intOf j).toNat)
  case atStart => exact ⟨0, rfl, Nat.zero_le _, by rw [e0.out], by rw [HSN.out.symm]; rfl, HG3.out, HG4.out, HB3.out⟩
  case round =>
   obtain ⟨i, rfl, hi, rfl, rfl, hg1, hg2, hB⟩ := hrel
   cases ho : (sdx N D i).2
   ·have GG1 : Blk wr g1 (allB (oneJ N D) n).toArray 4 := by
     rw [← tabL_full (oneJ N D) n (j := n + 1) (by omega), tabL_shut (j := i + 1) (fun k hk => oneJ_shut ho k (by omega)) (n + 1) (by omega)]
     exact hg1.out
    have GG2 : Blk wr g2 (allB (zeroJ N D) n).toArray 4 := by
     rw [← tabL_full (zeroJ N D) n (j := n + 1) (by omega), tabL_shut (j := i + 1) (fun k hk => zeroJ_shut ho k (by omega)) (n + 1) (by omega)]
     exact hg2.out
    have GG1 := hid GG1; have GG2 := hid GG2
    clear ho hi
    go_wp2_with fail
    all_goals
     go_ret2
     exact ⟨⟨_, _, rfl, ⟨g1, g2, rfl, rfl, H3.out, H4.out, H5.out, GG1.out, GG2.out⟩⟩, hB.out⟩
   ·by_cases hlt : i + 1 ≤ n
    ·obtain ⟨X, hX⟩ : ∃ X, (sdx N D i).1 = X := ⟨_, rfl⟩
     have hXD : X < D := hX ▸ sdx_lt HND.out i
     have hs : sdx N D (i + 1) = if D ≤ 2 * X then (2 * X - D, decide (2 * X ≠ D)) else (2 * X, true) := by rw [sdx, if_pos ho, hX]
     have h1 : oneJ N D (i + 1) = decide (D ≤ 2 * X) := by rw [oneJ, ho, hX]; rfl
     have h0 : zeroJ N D (i + 1) = decide (2 * X ≤ D) := by rw [zeroJ, ho, hX]; rfl
     have p10 : (10 : Nat) ^ (eN + 1) = 10 * 10 ^ eN := by rw [Nat.pow_succ, Nat.mul_comm]
     have q10 := C4.out
     have d1 : nDigits X ≤ 4000 := DN.out X (by omega)
     have d2 : nDigits (X + X) ≤ 4000 := DN.out _ (by omega)
     have d3 : nDigits D ≤ 4000 := DN.out _ (by omega)
     have HPL := fun V hV => hid (p_plus V X X d1 d1 d2 hV)
     have HCM := fun V => hid (p_cmp V (X + X) D d2 d3)
     rw [HSD.out] at HCM
     rw [hX]
     have k1 : wr.cell? ⟨g1, i + 1, none⟩ = some (.bool false) := by
      refine (hg1.out.cell (i + 1)).trans ?_
      rw [List.getElem?_toArray, tabL_get hlt]; simp
     have k2 : wr.cell? ⟨g2, i + 1, none⟩ = some (.bool false) := by
      refine (hg2.out.cell (i + 1)).trans ?_
      rw [List.getElem?_toArray, tabL_get hlt]; simp
     have f0 : (0 : Int) ≤ ((i + 1 : Nat) : Int) := by omega
     have f1 : ((i + 1 : Nat) : Int) < ((n + 1 : Nat) : Int) := by omega
     have f2 : decide (((i + 1 : Nat) : Int) ≤ (n : Int)) = true := by simp; omega
     have f3 : ((i + 1 : Nat) : Int) ≤ 1000 := by have := HN.out; omega
     have f4 : (i : Int) ≤ 1000 := by have := HN.out; omega
     have HLT := hid hlt
     rcases Nat.lt_trichotomy (X + X) D with hc | hc | hc
     ·rw [ordN_lt hc] at HCM
      have HS := hid (show sdx N D (i + 1) = (X + X, true) from by rw [hs, if_neg (by omega), Nat.two_mul])
      have T1 := hid (tabL_skip (n := n) (show oneJ N D (i + 1) = false from by rw [h1]; simp; omega))
      have T0 := hid (tabL_set (f := zeroJ N D) hlt)
      have HZ0 := hid (show zeroJ N D (i + 1) = true from by rw [h0]; simp; omega)
      clear hc hs h1 h0 p10 q10 d1 d2 d3 hX hXD ho hi
      go_wp2_with fail
      refine (HPL _ (HL.out.below hB.out HLL.out)).out.mono ?_; rintro e w5 ⟨rfl, hb5⟩
      have G15 := hid (hg1.out.call hb5); have G25 := hid (hg2.out.call hb5); have B5 := hid (hB.out.trans (hb5.mono hB.out.size))
      clear hb5
      go_wp2_with fail
      refine (HCM _).out.mono ?_; rintro e w6 ⟨rfl, hb6⟩
      have G16 := hid (G15.out.call hb6); have G26 := hid (G25.out.call hb6); have B6 := hid (B5.out.trans (hb6.mono B5.out.size))
      have m1 : w6.cell? ⟨g1, i + 1, none⟩ = some (.bool false) := by
       refine (G16.out.cell (i + 1)).trans ?_
       rw [List.getElem?_toArray, tabL_get hlt]; simp
      have m2 : w6.cell? ⟨g2, i + 1, none⟩ = some (.bool false) := by
       refine (G26.out.cell (i + 1)).trans ?_
       rw [List.getElem?_toArray, tabL_get hlt]; simp
      have m3 := G16.out.free (i + 1)
      have m4 := G26.out.free (i + 1)
      clear hb6 hlt k1 k2
      go_wp2_with fail
      go_roundw
      case rel =>
       refine ⟨i + 1, by go_num, HLT.out, by rw [HS.out], by rw [HS.out], ?_, ?_, B6.out.setCell H5.out _⟩
       ·show Blk _ _ _ _
        rw [T1.out]
        exact G16.out.other (fun e => H3.out e.symm) _
       ·show Blk _ _ _ _
        rw [← T0.out, HZ0.out]
        have h := G26.out.set (i + 1) (.bool true)
        rw [List.setIfInBounds_toArray] at h
        exact h
      case measure => simp [intOf] <;> (have := HLT.out; omega)
     ·rw [show ordN (X + X) D = 0 from by rw [hc, ordN_eq]] at HCM
      have hle : D ≤ X + X := by omega
      have HSU := fun V hV => hid (p_sub V (X + X) D d2 d3 hle hV)
      rw [HSD.out] at HSU
      have HS := hid (show sdx N D (i + 1) = (X + X - D, false) from by rw [hs, if_pos (by omega), Nat.two_mul]; simp; omega)
      have T1 := hid (tabL_set (f := oneJ N D) hlt)
      have HZ1 := hid (show oneJ N D (i + 1) = true from by rw [h1]; simp; omega)
      have T0 := hid (tabL_set (f := zeroJ N D) hlt)
      have HZ0 := hid (show zeroJ N D (i + 1) = true from by rw [h0]; simp; omega)
      clear hc hs h1 h0 p10 q10 d1 d2 d3 hX hXD ho hi hle
      go_wp2_with fail
      refine (HPL _ (HL.out.below hB.out HLL.out)).out.mono ?_; rintro e w5 ⟨rfl, hb5⟩
      have G15 := hid (hg1.out.call hb5); have G25 := hid (hg2.out.call hb5); have B5 := hid (hB.out.trans (hb5.mono hB.out.size))
      clear hb5
      go_wp2_with fail
      refine (HCM _).out.mono ?_; rintro e w6 ⟨rfl, hb6⟩
      have G16 := hid (G15.out.call hb6); have G26 := hid (G25.out.call hb6); have B6 := hid (B5.out.trans (hb6.mono B5.out.size))
      have m1 : w6.cell? ⟨g1, i + 1, none⟩ = some (.bool false) := by
       refine (G16.out.cell (i + 1)).trans ?_
       rw [List.getElem?_toArray, tabL_get hlt]; simp
      have m2 : w6.cell? ⟨g2, i + 1, none⟩ = some (.bool false) := by
       refine (G26.out.cell (i + 1)).trans ?_
       rw [List.getElem?_toArray, tabL_get hlt]; simp
      have m3 := G16.out.free (i + 1)
      have m4 := G26.out.free (i + 1)
      clear hb6 hlt k1 k2
      go_wp2_with fail
      refine (HSU _ (HL.out.below B6.out HLL.out)).out.mono ?_; rintro e w7 ⟨rfl, hb7⟩
      have G17 := hid (G16.out.call hb7); have G27 := hid (G26.out.call hb7); have B7 := hid (B6.out.trans (hb7.mono B6.out.size))
      have n1 := (hb7.cell (cell_lt m1)).trans m1
      have n3 := G17.out.free (i + 1)
      have n2 : (w7.setCell ⟨g1, i + 1, none⟩ (.bool true)).cell? ⟨g2, i + 1, none⟩ = some (.bool false) := ((G27.out.other (fun e => H3.out e) (.bool true)).cell (i + 1)).trans (by rw [List.getElem?_toArray, tabL_get HLT.out]; simp)
      have n4 : (w7.setCell ⟨g1, i + 1, none⟩ (.bool true)).frozen? ⟨g2, i + 1, none⟩ = false := (G27.out.other (a := ⟨g1, i + 1, none⟩) (fun e => H3.out e) (.bool true)).free (i + 1)
      clear hb7 m1 m2 m3 m4
      go_wp2_with fail
      go_roundw
      case rel =>
       refine ⟨i + 1, by go_num, HLT.out, by rw [HS.out], by rw [HS.out], ?_, ?_, ((B7.out.setCell H4.out _).setCell H5.out _)⟩
       ·show Blk _ _ _ _
        rw [← T1.out, HZ1.out]
        have h := (G17.out.set (i + 1) (.bool true)).other (a := ⟨g2, i + 1, none⟩) (fun e => H3.out e.symm) (.bool true)
        rw [List.setIfInBounds_toArray] at h
        exact h
       ·show Blk _ _ _ _
        rw [← T0.out, HZ0.out]
        have h := (G27.out.other (a := ⟨g1, i + 1, none⟩) (fun e => H3.out e) (.bool true)).set (i + 1) (.bool true)
        rw [List.setIfInBounds_toArray] at h
        exact h
      case measure => simp [intOf] <;> (have := HLT.out; omega)
     ·rw [ordN_gt hc] at HCM
      have hle : D ≤ X + X := by omega
      have HSU := fun V hV => hid (p_sub V (X + X) D d2 d3 hle hV)
      rw [HSD.out] at HSU
      have HS := hid (show sdx N D (i + 1) = (X + X - D, true) from by rw [hs, if_pos (by omega), Nat.two_mul]; simp; omega)
      have T1 := hid (tabL_set (f := oneJ N D) hlt)
      have HZ1 := hid (show oneJ N D (i + 1) = true from by rw [h1]; simp; omega)
      have T0 := hid (tabL_set (f := zeroJ N D) hlt)
      have HZ0 := hid (show zeroJ N D (i + 1) = false from by rw [h0]; simp; omega)
      clear hc hs h1 h0 p10 q10 d1 d2 d3 hX hXD ho hi hle
      go_wp2_with fail
      refine (HPL _ (HL.out.below hB.out HLL.out)).out.mono ?_; rintro e w5 ⟨rfl, hb5⟩
      have G15 := hid (hg1.out.call hb5); have G25 := hid (hg2.out.call hb5); have B5 := hid (hB.out.trans (hb5.mono hB.out.size))
      clear hb5
      go_wp2_with fail
      refine (HCM _).out.mono ?_; rintro e w6 ⟨rfl, hb6⟩
      have G16 := hid (G15.out.call hb6); have G26 := hid (G25.out.call hb6); have B6 := hid (B5.out.trans (hb6.mono B5.out.size))
      have m1 : w6.cell? ⟨g1, i + 1, none⟩ = some (.bool false) := by
       refine (G16.out.cell (i + 1)).trans ?_
       rw [List.getElem?_toArray, tabL_get hlt]; simp
      have m2 : w6.cell? ⟨g2, i + 1, none⟩ = some (.bool false) := by
       refine (G26.out.cell (i + 1)).trans ?_
       rw [List.getElem?_toArray, tabL_get hlt]; simp
      have m3 := G16.out.free (i + 1)
      have m4 := G26.out.free (i + 1)
      clear hb6 hlt k1 k2
      go_wp2_with fail
      refine (HSU _ (HL.out.below B6.out HLL.out)).out.mono ?_; rintro e w7 ⟨rfl, hb7⟩
      have G17 := hid (G16.out.call hb7); have G27 := hid (G26.out.call hb7); have B7 := hid (B6.out.trans (hb7.mono B6.out.size))
      have n1 := (hb7.cell (cell_lt m1)).trans m1
      have n3 := G17.out.free (i + 1)
      have n2 : (w7.setCell ⟨g1, i + 1, none⟩ (.bool true)).cell? ⟨g2, i + 1, none⟩ = some (.bool false) := ((G27.out.other (fun e => H3.out e) (.bool true)).cell (i + 1)).trans (by rw [List.getElem?_toArray, tabL_get HLT.out]; simp)
      have n4 : (w7.setCell ⟨g1, i + 1, none⟩ (.bool true)).frozen? ⟨g2, i + 1, none⟩ = false := (G27.out.other (a := ⟨g1, i + 1, none⟩) (fun e => H3.out e) (.bool true)).free (i + 1)
      clear hb7 m1 m2 m3 m4
      go_wp2_with fail
      go_roundw
      case rel =>
       refine ⟨i + 1, by go_num, HLT.out, by rw [HS.out], by rw [HS.out], ?_, ?_, ((B7.out.setCell H4.out _).setCell H5.out _)⟩
       ·show Blk _ _ _ _
        rw [← T1.out, HZ1.out]
        have h := (G17.out.set (i + 1) (.bool true)).other (a := ⟨g2, i + 1, none⟩) (fun e => H3.out e.symm) (.bool false)
        rw [List.setIfInBounds_toArray] at h
        exact h
       ·show Blk _ _ _ _
        rw [← T0.out, HZ0.out]
        have h := (G27.out.other (a := ⟨g1, i + 1, none⟩) (fun e => H3.out e) (.bool true)).set (i + 1) (.bool false)
        rw [List.setIfInBounds_toArray] at h
        exact h
      case measure => simp [intOf] <;> (have := HLT.out; omega)
    ·have e1 : i = n := by omega
     subst e1
     have f2 : decide (((i + 1 : Nat) : Int) ≤ (i : Int)) = false := by simp; omega
     have GG1 : Blk wr g1 (allB (oneJ N D) i).toArray 4 := by
      rw [← tabL_full (oneJ N D) i (j := i + 1) (by omega)]
      exact hg1.out
     have GG2 : Blk wr g2 (allB (zeroJ N D) i).toArray 4 := by
      rw [← tabL_full (zeroJ N D) i (j := i + 1) (by omega)]
      exact hg2.out
     have GG1 := hid GG1; have GG2 := hid GG2
     clear ho hi hlt
     go_wp2_with fail
     go_ret2
     exact ⟨⟨_, _, rfl, ⟨g1, g2, rfl, rfl, H3.out, H4.out, H5.out, GG1.out, GG2.out⟩⟩, hB.out⟩
def NRowT (w : World) (g : Nat) (l : List Nat) : Prop := Blk w g (numL l).toArray 22
theorem NRowT.cell {w : World} {g : Nat} {l : List Nat} (h : NRowT w g l) {i : Nat} (hi : i < l.length) : w.cell? ⟨g, i, none⟩ = some (.string (numB (l.getD i 0))) := by
 refine (Blk.cell h i).trans ?_
 rw [List.getElem?_toArray, numL_get hi]
theorem NRowT.free {w : World} {g : Nat} {l : List Nat} (h : NRowT w g l) (i : Nat) : w.frozen? ⟨g, i, none⟩ = false := Blk.free h i
theorem NRowT.set {w : World} {g : Nat} {l : List Nat} (h : NRowT w g l) (i x : Nat) : NRowT (w.setCell ⟨g, i, none⟩ (.string (numB x))) g (l.set i x) := by
 have := Blk.set h i (.string (numB x))
 rw [List.setIfInBounds_toArray, numL_set] at this
 exact this
theorem NRowT.call {w w' : World} {g : Nat} {l : List Nat} (h : NRowT w g l) (hb : Below w.heap.size w w') : NRowT w' g l := Blk.call h hb
theorem NRowT.other {w : World} {g : Nat} {l : List Nat} (h : NRowT w g l) {a : Addr} (ha : a.block ≠ g) (v : Value) : NRowT (w.setCell a v) g l := Blk.other h ha v
theorem NRowT.zeros {w : World} {g n : Nat} (h : Blk w g (strsR (List.replicate n ⟨#[48]⟩)).toArray 22) : NRowT w g (List.replicate n 0) := by
 have e : numL (List.replicate n 0) = strsR (List.replicate n ⟨#[48]⟩) := by
  unfold numL strsR
  rw [List.map_replicate, List.map_replicate, numB_zero]
 unfold NRowT
 rw [e]; exact h
open Go.Shelf
theorem g_power (w : World) (n : Nat) (hn : n ≤ 1000) (hL : Lay w) :
 Calls Tryz.prog 208 #[.int .i64 n] w fun e w' => e = .returned (.string (numB (2 ^ n))) ∧ Below w.heap.size w w' := by
 have HP := hid (n_Pow_ok w ⟨#[50]⟩ n errN_two (by omega) (by rw [bN_two]; exact two_digits hn) hL)
 rw [bN_two] at HP
 clear hn hL
 go_enter Tryz.func208, Tryz.ntmps208
 go_wp2_with fail
 refine HP.out.mono ?_; rintro e w1 ⟨rfl, hb1⟩
 have b1 := hid hb1; clear hb1
 go_wp2_with fail
 go_ret
 exact ⟨rfl, b1.out⟩
end Go.Proofs.YtlmnpocifldpmaaGreatDoor
namespace Go.Proofs.YtlmnpocifldpmaaGreatDoor
open Go.RowKit
def drT (N D : Nat) (two : Bool) (l : List UInt8) : Bool × Int × Int := if two = true then twoT N D l else oneT N D l
theorem drT_is {N D : Nat} (h : N < D) (two : Bool) (l : List UInt8) : ∃ u : Nat, u ≤ l.length ∧ ((valT N D two l = none ∧ drT N D two l = (false, 0, (u : Int))) ∨ (∃ v : Int, -(l.length : Int) ≤ v ∧ v ≤ l.length ∧ valT N D two l = some v ∧ drT N D two l = (true, v, (u : Int)))) := by
 have hb := fun v hv => valT_bd h (two := two) (l := l) (v := v) hv
 unfold valT at hb
 unfold valT drT oneT twoT
 cases hs : s1 N D l 0 0 with
 | none => exact ⟨l.length, Nat.le_refl _, .inl ⟨rfl, by cases two <;> rfl⟩⟩
 | some xp =>
  obtain ⟨x, p⟩ := xp
  obtain ⟨b1, b2⟩ := s1_bd h hs
  rw [hs] at hb
  cases two
  ·exact ⟨p, b1, .inr ⟨x, (hb _ rfl).1, (hb _ rfl).2, rfl, rfl⟩⟩
  ·simp only [if_true] at hb ⊢
   have hd := s1_drop h (l := l) (a := p) b1 l.length 0 0 (by omega) (by omega)
   rw [Nat.add_zero] at hd
   rw [hd]
   cases hs2 : s1 N D (l.drop p) 0 0 with
   | none => exact ⟨l.length, Nat.le_refl _, .inl ⟨rfl, rfl⟩⟩
   | some yq =>
    obtain ⟨y, q⟩ := yq
    obtain ⟨b3, b4⟩ := s1_bd h hs2
    rw [List.length_drop] at b3
    rw [hs2] at hb
    exact ⟨p + q, by omega, .inr ⟨(x : Int) - (y : Int), (hb _ rfl).1, (hb _ rfl).2, rfl, rfl⟩⟩
def zs (l : List Int) : List Value := l.map (Value.int .i64)
@[simp] theorem zs_length (l : List Int) : (zs l).length = l.length := by simp [zs]
theorem zs_get {l : List Int} {i : Nat} {x : Int} (h : l[i]? = some x) : (zs l)[i]? = some (.int .i64 x) := by simp [zs, h]
theorem Row.openZ {w : World} {v : Value} {l : List Int} (h : Row w v (zs l)) : ∃ a c, v = .slice a l.length c ∧ l.length ≤ c ∧ c ≤ 9223372036854775807 ∧ ∀ (i : Nat) (x : Int), l[i]? = some x → ∃ g o, a = some ⟨g, o, none⟩ ∧ g < w.heap.size ∧ w.cell? ⟨g, o + i, none⟩ = some (.int .i64 x) := by
 obtain ⟨a, c, rfl, h1, h2, h3⟩ := h.ex
 rw [zs_length] at *
 exact ⟨a, c, rfl, h1, by unfold maxLen at h2; omega, fun i x hx => h3 i _ (zs_get hx)⟩
open Go.Shelf
open Go.Lib (decDigits nDigits)
def wildB (u : Int) : Bool := decide (u < -1125899906842624) || decide (1125899906842624 < u)
def idxZ (p : Int → Bool) (l : List Int) : Int := if l.any p = true then (l.findIdx p : Nat) else -1
theorem s_IndexFuncI (w : World) (v : Value) (l : List Int) (F : Nat) (p : Int → Bool) (hv : Row w v (zs l)) (hl : l.length ≤ 9223372036854775807) (hen : ∀ args w, (callFunc F args).run Tryz.prog w = .ok (.enter F args) w)
 (hF : ∀ W x, Calls Tryz.prog F #[.int .i64 x] W fun e w' => e = .returned (.bool (p x)) ∧ W = w') :
 Calls Tryz.prog 153 #[v, .func (.func F) #[] #[]] w fun e w' => e = .returned (.int .i64 (idxZ p l)) ∧ w = w' := by
 obtain ⟨a, c, rfl, q1, q2, q3⟩ := hv.openZ
 obtain ⟨n, hn⟩ : ∃ n, l.length = n := ⟨_, rfl⟩
 rw [hn] at q1 hl ⊢
 have HN := hid hn; have Q3 := hid q3; have HF := hid hF
 clear hv q3 hn hF
 go_enter Tryz.func153, Tryz.ntmps153
 go_wp2_with fail
 go_loop [8] (fun ii => ∃ i : Nat, ii = .int .i64 i ∧ i ≤ n ∧ Hid (∀ j x, j < i → l[j]? = some x → p x = false)) (fun ii => n - (intOf ii).toNat)
 case atStart => exact ⟨0, rfl, Nat.zero_le _, fun j x hj => absurd hj (by omega)⟩
 case round =>
  obtain ⟨i, rfl, hi, hI⟩ := hrel
  by_cases hlt : i < n
  ·obtain ⟨x, hx⟩ : ∃ x, l[i]? = some x := ⟨_, List.getElem?_eq_getElem (by rw [HN.out]; exact hlt)⟩
   obtain ⟨g, o, rfl, hg, hc⟩ := Q3.out i x hx
   have HX := hid hx
   have b1 : (0 : Int) ≤ (i : Int) := by omega
   have b2 : (i : Int) < (n : Int) := by omega
   have wi : IntKind.i64.wrap ((i : Int) + 1) = ((i + 1 : Nat) : Int) := by rw [IntWalk.i64_in _ ⟨by omega, by omega⟩]; omega
   obtain ⟨z, hz⟩ : ∃ z, p x = z := ⟨_, rfl⟩
   have C := fun W => hid (hz ▸ HF.out W x)
   have HZ := hid hz
   clear hx hz
   go_wp2_with fail
   refine (C _).out.mono ?_; rintro e w1 ⟨rfl, rfl⟩
   cases z
   ·go_wp2_with fail
    go_round
    case rel => exact ⟨i + 1, by go_num, by omega, fun j y hj hy => by
     rcases Nat.lt_or_ge j i with h | h
     ·exact hI.out j y h hy
     ·obtain rfl : j = i := by omega
      rw [HX.out] at hy; cases hy; exact HZ.out⟩
    case measure => simp [intOf] <;> omega
   ·have hA : l.any p = true := List.any_eq_true.2 ⟨x, List.mem_of_getElem? HX.out, HZ.out⟩
    have hfi : l.findIdx p = i := by
     have hil : i < l.length := by rw [HN.out]; exact hlt
     rw [List.findIdx_eq hil]
     refine ⟨?_, fun j hj => ?_⟩
     ·have := HX.out; rw [List.getElem?_eq_getElem hil] at this; rw [Option.some.inj this]; exact HZ.out
     ·exact hI.out j _ hj (List.getElem?_eq_getElem (Nat.lt_trans hj hil))
    have HE := hid (show idxZ p l = (i : Int) from by rw [idxZ, if_pos hA, hfi])
    clear hA hfi
    go_wp2_with fail
    go_ret
    exact ⟨by rw [HE.out]; rfl, rfl⟩
  ·obtain rfl : i = n := by omega
   have hA : ¬ l.any p = true := fun h => by
    obtain ⟨x, hx, hp⟩ := List.any_eq_true.1 h
    obtain ⟨j, hj⟩ := List.getElem?_of_mem hx
    have := hI.out j x (by rw [← HN.out]; exact (List.getElem?_eq_some_iff.1 hj).1) hj
    rw [this] at hp; cases hp
   have HE := hid (show idxZ p l = -1 from by rw [idxZ, if_neg hA])
   have q0 : decide ((i : Int) < (i : Int)) = false := by simp
   clear hA hlt
   go_wp2_with fail
   go_ret
   exact ⟨by rw [HE.out]; rfl, rfl⟩
theorem s_ContainsFuncI (w : World) (v : Value) (l : List Int) (F : Nat) (p : Int → Bool) (hv : Row w v (zs l)) (hl : l.length ≤ 9223372036854775807) (hen : ∀ args w, (callFunc F args).run Tryz.prog w = .ok (.enter F args) w)
 (hF : ∀ W x, Calls Tryz.prog F #[.int .i64 x] W fun e w' => e = .returned (.bool (p x)) ∧ W = w') :
 Calls Tryz.prog 91 #[v, .func (.func F) #[] #[]] w fun e w' => e = .returned (.bool (l.any p)) ∧ w = w' := by
 have HI := hid (s_IndexFuncI w v l F p hv hl hen hF)
 have HB := hid (show decide (0 ≤ idxZ p l) = l.any p from by
  unfold idxZ
  cases h : l.any p
  ·rw [if_neg (by simp)]; rfl
  ·rw [if_pos rfl]; simp)
 rw [← HB.out]
 obtain ⟨a, c, rfl, -⟩ := hv.openZ
 generalize idxZ p l = z at *
 clear hF hv
 go_enter Tryz.func91, Tryz.ntmps91
 go_wp2_with fail
 refine HI.out.mono ?_; rintro e w1 ⟨rfl, rfl⟩
 go_wp2_with fail
 go_ret
 exact ⟨rfl, rfl⟩
end Go.Proofs.YtlmnpocifldpmaaGreatDoor
namespace Go.Proofs.YtlmnpocifldpmaaGreatDoor
open Go.RowKit
open Go.Lib (decDigits nDigits)
theorem gE_empty (a : ByteArray) : gE a ⟨#[]⟩ = gPE a := by
 unfold gE
 split
 ·rfl
 ·rename_i h
  have : gPE a = 0 := Classical.byContradiction h
  rw [this]; decide
theorem chkE_err (s : ByteArray) : chkE s = if bitE s ≠ 0 then bitE s else if 256 < s.size then 4 else 0 := by
 unfold chkE bitE
 split <;> rfl
def bsE : List ByteArray → Int
 | [] => 0
 | s :: r => if chkE s ≠ 0 then chkE s else bsE r
def wdE (l : List ByteArray) (m : Int) : Int := if (l.length : Int) = m then bsE l else 16
theorem bsE_at : ∀ {l : List ByteArray} {i : Nat}, (∀ (j : Nat) (b : ByteArray), j < i → l[j]? = some b → chkE b = 0) → bsE l = bsE (l.drop i)
 | [], i, _ => by simp [bsE]
 | b :: r, 0, _ => rfl
 | b :: r, i + 1, h => by
  have h1 := h 0 b (by omega) rfl
  have h3 := bsE_at (l := r) (i := i) (fun j c hj hc => h (j + 1) c (by omega) (by simpa using hc))
  rw [bsE, if_neg (by simp [h1]), h3]
  rfl
theorem bsE_zero : ∀ {l : List ByteArray}, bsE l = 0 ↔ ∀ b ∈ l, chkE b = 0
 | [] => by simp [bsE]
 | b :: r => by
  rw [bsE]
  by_cases h : chkE b = 0
  ·rw [if_neg (by simp [h]), bsE_zero]
   simp [h]
  ·rw [if_pos h]
   simp [h]
def zE (c : List Int) : Int := if 256 < c.length then 4 else if c.any wildB = true then 2 else 0
def ctE (c : List Int) : Int := if c.length = 0 then 2 else zE c
def nz1 (two : Bool) (a : ByteArray) (n : Int) (b : ByteArray) : Option Int := let t := if two = true then wT a b else oT a b; if t.1 = true then some (n + t.2.1) else none
def nzO (two : Bool) (a : ByteArray) : List Int → List ByteArray → Option (List Int)
 | c :: cs, b :: bs => (nz1 two a c b).bind fun x => (nzO two a cs bs).map (x :: ·)
 | _, _ => some []
theorem nz1_val {a b : ByteArray} (two : Bool) (he : gPE a = 0) (hb : chkE b = 0) (n : Int) : nz1 two a n b = (valT (bN (cW a)) (bN (qD a)) two b.data.toList).map (n + ·) := by
 have hg : gE a b = 0 := by unfold gE; rw [if_neg (by rw [he]; simp)]; exact hb
 have hND := (gPE_ok he).2
 obtain ⟨u, _, h⟩ := drT_is hND two b.data.toList
 have e : (if two = true then wT a b else oT a b) = drT (bN (cW a)) (bN (qD a)) two b.data.toList := by
  unfold wT oT drT
  rw [if_pos hg, if_pos hg]
 unfold nz1
 rw [e]
 rcases h with ⟨h1, h2⟩ | ⟨v, -, -, h1, h2⟩
 ·rw [h1, h2]; rfl
 ·rw [h1, h2]; rfl
theorem nzO_length {two : Bool} {a : ByteArray} : ∀ {c : List Int} {b : List ByteArray} {l : List Int}, c.length = b.length → nzO two a c b = some l → l.length = c.length
 | [], [], l, _, h => by cases h; rfl
 | c :: cs, b :: bs, l, hl, h => by
  rw [nzO] at h
  cases h1 : nz1 two a c b with
  | none => rw [h1] at h; cases h
  | some x =>
   rw [h1] at h
   cases h2 : nzO two a cs bs with
   | none => rw [h2] at h; cases h
   | some r =>
    rw [h2] at h
    cases h
    rw [List.length_cons, nzO_length (by simpa using hl) h2, List.length_cons]
open Go.Shelf
theorem make_ints (n : Nat) (hn : n ≤ 3000000) (W : World) : (Instr.makeSlice 24 (.int .i64 (n : Int)) (.int .i64 (n : Int))).run Tryz.prog W = .ok (.slice (some ⟨W.heap.size, 0, none⟩) n n) (W.alloc (.cells (madeCells #[.int .i64 0] n) 3)) :=
 run_make_row' (P := Tryz.prog) 24 3 (.int .i64 0) 8 Tryz.underlying24 (by kernel_rfl) rfl .i64 .i64 n (by omega) (by omega) W
theorem tb_list (l : List UInt8) : (tb l).data.toList = l := by simp [tb]
theorem made_ints (n : Nat) : madeCells #[.int .i64 0] n = (ints .i64 (List.replicate n 0)).toArray := made_zeros .i64 n
def ltB (x z : ByteArray) : Bool := Op.bytesLess x.toList z.toList
def addL (L : List (ByteArray × ByteArray)) (key p : ByteArray) : List (ByteArray × ByteArray) :=
 if p = ⟨#[48]⟩ then L else L.takeWhile (fun x => ltB x.1 key) ++ (key, p) :: L.dropWhile (fun x => ltB x.1 key)
theorem ltB_iff {x z : ByteArray} : ltB x z = true ↔ ¬ z.data.toList ≤ x.data.toList := by
 unfold ltB
 rw [bytesLess_eq, Lib.toList_data, Lib.toList_data, decide_eq_true_eq]
 exact List.not_le.symm
theorem drop_while_ge {key : ByteArray} : ∀ {L : List (ByteArray × ByteArray)}, L.Pairwise (fun p q => leB (keyL p) (keyL q) = true) → ∀ x ∈ L.dropWhile (fun x => ltB x.1 key), leB key.data.toList (keyL x) = true := by
 intro L
 induction L with
 | nil => intro _ x hx; simp at hx
 | cons a r ih =>
  intro h x hx
  obtain ⟨h1, h2⟩ := List.pairwise_cons.1 h
  by_cases ha : ltB a.1 key = true
  ·rw [List.dropWhile_cons, if_pos ha] at hx
   exact ih h2 x hx
  ·rw [List.dropWhile_cons, if_neg ha] at hx
   have hle : leB key.data.toList (keyL a) = true := by
    have := mt ltB_iff.2 ha
    unfold leB
    rw [decide_eq_true_eq]
    exact Decidable.not_not.1 this
   rcases List.mem_cons.1 hx with rfl | hx
   ·exact hle
   ·exact leB_trans _ _ _ hle (h1 x hx)
theorem mem_tw {α : Type} {f : α → Bool} {x : α} : ∀ {L : List α}, x ∈ L.takeWhile f → f x = true := by
 intro L
 induction L with
 | nil => intro h; simp at h
 | cons a r ih =>
  intro h
  by_cases ha : f a = true
  ·rw [List.takeWhile_cons, if_pos ha] at h
   rcases List.mem_cons.1 h with rfl | h
   ·exact ha
   ·exact ih h
  ·rw [List.takeWhile_cons, if_neg ha] at h; simp at h
theorem pw_inj {L : List (ByteArray × ByteArray)} : L.Pairwise (fun x y => x.1 ≠ y.1) → ∀ x ∈ L, ∀ y ∈ L, x.1 = y.1 → x = y := by
 induction L with
 | nil => intro _ x hx; simp at hx
 | cons a r ih =>
  intro h x hx y hy e
  obtain ⟨h1, h2⟩ := List.pairwise_cons.1 h
  rcases List.mem_cons.1 hx with e1 | hx' <;> rcases List.mem_cons.1 hy with e2 | hy'
  ·rw [e1, e2]
  ·rw [e1] at e; exact absurd e (h1 y hy')
  ·rw [e2] at e; exact absurd e.symm (h1 x hx')
  ·exact ih h2 x hx' y hy' e
theorem take_while_lt {key : ByteArray} {L : List (ByteArray × ByteArray)} : ∀ x ∈ L.takeWhile (fun x => ltB x.1 key), leB (keyL x) key.data.toList = true := fun x hx => by
 have h := mem_tw hx
 have := ltB_iff.1 h
 unfold leB
 rw [decide_eq_true_eq]
 rcases List.le_total (keyL x) key.data.toList with h' | h'
 ·exact h'
 ·exact absurd h' this
theorem addL_sort {L : List (ByteArray × ByteArray)} {key p : ByteArray} (hp : p ≠ ⟨#[48]⟩) (hk : ∀ x ∈ L, x.1 ≠ key) (hn : L.Pairwise (fun x y => x.1 ≠ y.1)) : addL (sortM L) key p = sortM (L ++ [(key, p)]) := by
 rw [addL, if_neg hp]
 have hs := sortM_sorted L
 have hperm : ((sortM L).takeWhile (fun x => ltB x.1 key) ++ (key, p) :: (sortM L).dropWhile (fun x => ltB x.1 key)).Perm (sortM (L ++ [(key, p)])) := by
  refine List.Perm.trans List.perm_middle ?_
  rw [List.takeWhile_append_dropWhile]
  refine List.Perm.trans ?_ (List.mergeSort_perm _ _).symm
  exact (List.Perm.cons _ (List.mergeSort_perm _ _)).trans (List.perm_append_singleton _ _).symm
 have hinj : ∀ x ∈ L ++ [(key, p)], ∀ y ∈ L ++ [(key, p)], x.1 = y.1 → x = y := by
  have hpw : (L ++ [(key, p)]).Pairwise (fun x y => x.1 ≠ y.1) := by
   rw [List.pairwise_append]
   exact ⟨hn, by simp, fun a ha b hb => by simp at hb; subst hb; exact hk a ha⟩
  exact pw_inj hpw
 refine List.Perm.eq_of_pairwise (le := fun p q => leB (keyL p) (keyL q) = true) ?_ ?_ (sortM_sorted _) hperm
 ·intro a b ha hb h1 h2
  have ha' : a ∈ L ++ [(key, p)] := sortM_mem.1 (hperm.mem_iff.1 ha)
  have hb' : b ∈ L ++ [(key, p)] := sortM_mem.1 hb
  refine hinj a ha' b hb' ?_
  simp only [leB, decide_eq_true_eq] at h1 h2
  exact ba_ext (List.le_antisymm h1 h2)
 ·rw [List.pairwise_append]
  refine ⟨hs.sublist (List.takeWhile_sublist _), ?_, fun a ha b hb => ?_⟩
  ·rw [List.pairwise_cons]
   exact ⟨fun x hx => drop_while_ge hs x hx, hs.sublist (List.dropWhile_sublist _)⟩
  ·have h1 := take_while_lt a ha
   rcases List.mem_cons.1 hb with rfl | hb
   ·exact h1
   ·exact leB_trans _ _ _ h1 (drop_while_ge hs b hb)
end Go.Proofs.YtlmnpocifldpmaaGreatDoor
namespace Go.Proofs.YtlmnpocifldpmaaGreatDoor
open Go.RowKit
open Go.Lib (decDigits nDigits)
structure Few (ws : List Nat) : Prop where
 len : ws.length ≤ 64
 dig : ∀ x ∈ ws, nDigits x ≤ 300
 pos : 0 < ws.sum
section
variable {ws : List Nat} {m : Nat} (h : Few ws) (hm : m ≤ 256)
include h
include hm
omit hm
end
open Go.Shelf
theorem shB_ne {a b : Nat} (hb : b ≠ 0) (h1 : nDigits a ≤ 4000) (h2 : nDigits b ≤ 4000) (ha : a ≠ 0) : shB a b ≠ ⟨#[48]⟩ := fun e => by
 rw [← shB_zero b, shB_tx hb h1 h2, shB_tx hb (by rw [nDigits_zero]; omega) h2] at e
 have e' := congrArg vQ e
 rw [vQ_txQ, vQ_txQ] at e'
 have h3 := (Rat.mkRat_eq_iff hb hb).1 e'
 have h4 : ((a * b : Nat) : Int) = 0 := by rw [Int.natCast_mul, h3]; simp
 have hp : 0 < a * b := Nat.mul_pos (by omega) (by omega)
 omega
end Go.Proofs.YtlmnpocifldpmaaGreatDoor
namespace Go.Proofs.YtlmnpocifldpmaaGreatDoor
open Go.RowKit
open Go.Lib (decDigits nDigits)
section
variable {g : Int → Nat} {n : Nat} (hg : ∀ v : Int, v < 0 → g v = 0) (hz : zS n g ≤ 2 ^ n)
include hg hz
omit hg hz in
omit hg hz in
end
def notZ (p : ByteArray × ByteArray) : Bool := decide (p.2 ≠ ⟨#[48]⟩)
theorem dy_eq_zero {x m : Nat} (hx : x ≤ 2 ^ m) (h : m ≤ 1000) : dyB x m = ⟨#[48]⟩ ↔ x = 0 :=
 ⟨fun e => Classical.byContradiction fun h0 => shB_ne (pow_ne m) (dy_nd hx h) (dy_nd (Nat.le_refl _) h) h0 e, fun e => e ▸ dy_zero m⟩
def chk (n : Nat) : Nat → List UInt8 → List (List UInt8)
 | 0, _ => []
 | L + 1, l => l.take n :: chk n L (l.drop n)
theorem chk_length (n : Nat) : ∀ (L : Nat) (l : List UInt8), (chk n L l).length = L
 | 0, _ => rfl
 | L + 1, l => by rw [chk, List.length_cons, chk_length n L]
theorem chk_bits {n : Nat} : ∀ {L : Nat} {l : List UInt8}, l.length = n * L → (∀ b ∈ l, b = 48 ∨ b = 49) → ∀ x ∈ chk n L l, x.length = n ∧ ∀ b ∈ x, b = 48 ∨ b = 49
 | 0, _, _, _, x, hx => by simp [chk] at hx
 | L + 1, l, hl, hb, x, hx => by
  rw [Nat.mul_add, Nat.mul_one] at hl
  rcases List.mem_cons.1 hx with rfl | hx
  ·exact ⟨by rw [List.length_take]; omega, fun b h => hb b (List.mem_of_mem_take h)⟩
  ·exact chk_bits (by rw [List.length_drop]; omega) (fun b h => hb b (List.mem_of_mem_drop h)) x hx
theorem chkE_tb {x : List UInt8} (hb : ∀ b ∈ x, b = 48 ∨ b = 49) (hx : x.length ≤ 256) : chkE (tb x) = 0 := by
 have h1 : bitB (tb x) = true := by
  unfold bitB
  rw [List.all_eq_true]
  intro b h
  have : b ∈ x := by simpa [tb] using h
  rcases hb b this with rfl | rfl <;> rfl
 have h2 : (tb x).size = x.length := by simp [tb, ByteArray.size]
 unfold chkE
 rw [if_pos h1, if_neg (by omega)]
theorem nzO_chunks {a : ByteArray} (two : Bool) (he : gPE a = 0) {n : Nat} (hn : n ≤ 256) : ∀ (c : List Int) (l : List UInt8), l.length = n * c.length → (∀ b ∈ l, b = 48 ∨ b = 49) →
 nzO two a c ((chk n c.length l).map tb) = (vals n (List.replicate c.length (valT (bN (cW a)) (bN (qD a)) two)) l).map (nzV c)
 | [], l, _, _ => rfl
 | c :: cs, l, hl, hb => by
  rw [List.length_cons, Nat.mul_add, Nat.mul_one] at hl
  have hb1 : ∀ b ∈ l.take n, b = 48 ∨ b = 49 := fun b h => hb b (List.mem_of_mem_take h)
  have e1 := nz1_val (a := a) (b := tb (l.take n)) two he (chkE_tb hb1 (by rw [List.length_take]; omega)) c
  have et : (tb (l.take n)).data.toList = l.take n := by simp [tb]
  rw [et] at e1
  rw [List.length_cons, chk, List.map_cons, nzO, e1, nzO_chunks two he hn cs (l.drop n) (by rw [List.length_drop]; omega) (fun b h => hb b (List.mem_of_mem_drop h)), List.replicate_succ, vals]
  cases valT (bN (cW a)) (bN (qD a)) two (l.take n) with
  | none => rfl
  | some x =>
   cases vals n (List.replicate cs.length (valT (bN (cW a)) (bN (qD a)) two)) (l.drop n) with
   | none => rfl
   | some r => rfl
theorem numB_lateB (k : Nat) : numB k ≠ lateB := fun e => by
 have := zB_late (k : Int)
 rw [zB_nat] at this
 exact this (congrArg (fun b : ByteArray => b.data.toList) e)
theorem dyB_size {x m : Nat} (hx : x ≤ 2 ^ m) (h : m ≤ 1000) : (dyB x m).size ≤ 10000 := by unfold dyB shB; exact outB_size _
end Go.Proofs.YtlmnpocifldpmaaGreatDoor
namespace Go.Proofs
open Go.Shelf
def Tryz.sortMW_ren : Go.Shelf.Ren := ⟨fun | 14 => 100 | 20 => 163 | 21 => 164 | 22 => 165 | 23 => 166 | 24 => 167 | 25 => 168 | 26 => 169 | 27 => 170 | 46 => 230 | 47 => 231 | 48 => 232 | 49 => 233 | 50 => 234 | 15 => 101 | 57 => 279 | 28 => 171 | 29 => 172 | n => n, fun | 24 => 39 | 22 => 25 | 3 => 3 | 25 => 78 | 4 => 4 | 0 => 0 | 46 => 183 | 45 => 182 | 50 => 187 | 66 => 238 | 39 => 125 | 55 => 151 | 70 => 242 | 76 => 293 | 77 => 294 | 53 => 175 | 5 => 5 | 9 => 9 | n => n, fun | n => n⟩
theorem Tryz.sortMW : Go.Proofs.SlLaysF0.n14 Tryz.prog Tryz.sortMW_ren := {
 mixed := by kernel_rfl
 f14 := ⟨Tryz.f100.name, by decide, Tryz.func100.trans (congrArg some (by kernel_rfl))⟩
 f15 := Tryz.func101.trans (congrArg some (by kernel_rfl))
 f20 := ⟨Tryz.f163.name, by decide, Tryz.func163.trans (congrArg some (by kernel_rfl))⟩
 f21 := ⟨Tryz.f164.name, by decide, Tryz.func164.trans (congrArg some (by kernel_rfl))⟩
 f22 := ⟨Tryz.f165.name, by decide, Tryz.func165.trans (congrArg some (by kernel_rfl))⟩
 f23 := ⟨Tryz.f166.name, by decide, Tryz.func166.trans (congrArg some (by kernel_rfl))⟩
 f24 := ⟨Tryz.f167.name, by decide, Tryz.func167.trans (congrArg some (by kernel_rfl))⟩
 f25 := ⟨Tryz.f168.name, by decide, Tryz.func168.trans (congrArg some (by kernel_rfl))⟩
 f26 := ⟨Tryz.f169.name, by decide, Tryz.func169.trans (congrArg some (by kernel_rfl))⟩
 f27 := ⟨Tryz.f170.name, by decide, Tryz.func170.trans (congrArg some (by kernel_rfl))⟩
 f28 := Tryz.func171.trans (congrArg some (by kernel_rfl))
 f29 := Tryz.func172.trans (congrArg some (by kernel_rfl))
 f46 := ⟨Tryz.f230.name, by decide, Tryz.func230.trans (congrArg some (by kernel_rfl))⟩
 f47 := Tryz.func231.trans (congrArg some (by kernel_rfl))
 f48 := Tryz.func232.trans (congrArg some (by kernel_rfl))
 f49 := ⟨Tryz.f233.name, by decide, Tryz.func233.trans (congrArg some (by kernel_rfl))⟩
 f50 := ⟨Tryz.f234.name, by decide, Tryz.func234.trans (congrArg some (by kernel_rfl))⟩
 f57 := ⟨Tryz.f279.name, by decide, Tryz.func279.trans (congrArg some (by kernel_rfl))⟩
 t0 := Tryz.underlying0
 a0 := Tryz.isAgg0
 z0 := Tryz.sizeOf0
 v0 := Tryz.zeroValue0
 t3 := Tryz.underlying3
 a3 := Tryz.isAgg3
 z3 := Tryz.sizeOf3
 v3 := Tryz.zeroValue3
 t4 := Tryz.underlying4
 a4 := Tryz.isAgg4
 z4 := Tryz.sizeOf4
 v4 := Tryz.zeroValue4
 t5 := Tryz.underlying5
 a5 := Tryz.isAgg5
 z5 := Tryz.sizeOf5
 v5 := Tryz.zeroValue5
 t9 := Tryz.underlying9
 a9 := Tryz.isAgg9
 z9 := Tryz.sizeOf9
 v9 := Tryz.zeroValue9
 t22 := Tryz.underlying25
 a22 := Tryz.isAgg25
 z22 := Tryz.sizeOf25
 v22 := Tryz.zeroValue25
 t25 := Tryz.underlying78
 a25 := Tryz.isAgg78
 z25 := Tryz.sizeOf78
 v25 := Tryz.zeroValue78
 t39 := Tryz.underlying125
 a39 := Tryz.isAgg125
 z39 := Tryz.sizeOf125
 v39 := Tryz.zeroValue125
 t45 := Tryz.underlying182
 a45 := Tryz.isAgg182
 z45 := Tryz.sizeOf182
 v45 := Tryz.zeroValue182
 t46 := Tryz.underlying183
 a46 := Tryz.isAgg183
 z46 := Tryz.sizeOf183
 v46 := Tryz.zeroValue183
 t50 := Tryz.underlying187
 a50 := Tryz.isAgg187
 z50 := Tryz.sizeOf187
 v50 := Tryz.zeroValue187
 t53 := Tryz.underlying175
 a53 := Tryz.isAgg175
 z53 := Tryz.sizeOf175
 v53 := Tryz.zeroValue175
 t55 := Tryz.underlying151
 a55 := Tryz.isAgg151
 z55 := Tryz.sizeOf151
 v55 := Tryz.zeroValue151
 t66 := Tryz.underlying238
 a66 := Tryz.isAgg238
 z66 := Tryz.sizeOf238
 v66 := Tryz.zeroValue238
 t70 := Tryz.underlying242
 a70 := Tryz.isAgg242
 z70 := Tryz.sizeOf242
 v70 := Tryz.zeroValue242
 t76 := Tryz.underlying293
 a76 := Tryz.isAgg293
 z76 := Tryz.sizeOf293
 v76 := Tryz.zeroValue293
 t77 := Tryz.underlying294
 a77 := Tryz.isAgg294
 z77 := Tryz.sizeOf294
 v77 := Tryz.zeroValue294 }
def Tryz.lenW_ren : Go.Shelf.Ren := ⟨fun | 125 => 101 | 128 => 171 | 129 => 172 | n => n, fun | 46 => 125 | 3 => 3 | 51 => 175 | 53 => 151 | 4 => 4 | 5 => 5 | 9 => 9 | n => n, fun | n => n⟩
theorem Tryz.lenW : Go.Proofs.Lays.n125 Tryz.prog Tryz.lenW_ren := {
 mixed := by kernel_rfl
 f125 := Tryz.func101.trans (congrArg some (by kernel_rfl))
 f128 := Tryz.func171.trans (congrArg some (by kernel_rfl))
 f129 := Tryz.func172.trans (congrArg some (by kernel_rfl))
 t3 := Tryz.underlying3
 a3 := Tryz.isAgg3
 z3 := Tryz.sizeOf3
 v3 := Tryz.zeroValue3
 t4 := Tryz.underlying4
 a4 := Tryz.isAgg4
 z4 := Tryz.sizeOf4
 v4 := Tryz.zeroValue4
 t5 := Tryz.underlying5
 a5 := Tryz.isAgg5
 z5 := Tryz.sizeOf5
 v5 := Tryz.zeroValue5
 t9 := Tryz.underlying9
 a9 := Tryz.isAgg9
 z9 := Tryz.sizeOf9
 v9 := Tryz.zeroValue9
 t46 := Tryz.underlying125
 a46 := Tryz.isAgg125
 z46 := Tryz.sizeOf125
 v46 := Tryz.zeroValue125
 t51 := Tryz.underlying175
 a51 := Tryz.isAgg175
 z51 := Tryz.sizeOf175
 v51 := Tryz.zeroValue175
 t53 := Tryz.underlying151
 a53 := Tryz.isAgg151
 z53 := Tryz.sizeOf151
 v53 := Tryz.zeroValue151 }
end Go.Proofs
