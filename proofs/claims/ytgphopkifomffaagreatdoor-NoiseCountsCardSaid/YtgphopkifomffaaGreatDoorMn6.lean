/- Texts that the proof rests on, merged: E2, E3, E4, E5, PcH, R1l, R1m, R2d, R2f, R2i, R1b, R1d, R1k, R1n, R2h, R1q, R1f, R1g, R1h. -/
import Derived.Test.YtgphopkifomffaaGreatDoorMn5
import Derived.Deep.LoopGhost
import Derived.RangeFuncBox
import Derived.Scope
import Derived.Laws.IdiomStrings
import Derived.WalkSpells
import Derived.IntWalk
import Derived.Deep.RegionHeld3
import Derived.Deep.DeepCutAuto
import Derived.Deep.CutBlock
namespace Go.Proofs.YtgphopkifomffaaGreatDoor
open Go.RowKit Go.Shelf
open Go.Lib (decDigits nDigits)
set_option linter.unusedVariables false
set_option linter.unusedSimpArgs false
attribute [local go_sem] Oper.semAt_some
theorem bit_drop {b : ByteArray} (h : chkE b = 0) (p : Nat) : chkE (b.extract p b.size) = 0 ∧ (b.extract p b.size).data.toList = b.data.toList.drop p ∧ (b.extract p b.size).size ≤ 256 := by
  have hl : b.data.toList.length = b.size := list_size b
  have e : (b.extract p b.size).data.toList = b.data.toList.drop p := by
    rw [extract_list, List.take_of_length_le (by rw [List.length_drop]; omega)]
  unfold chkE at h
  split at h
  · rename_i hb
    split at h
    · cases h
    · rename_i h2
      have hs : (b.extract p b.size).size ≤ 256 := by
        have := list_size (b.extract p b.size)
        rw [e, List.length_drop] at this
        omega
      refine ⟨?_, e, hs⟩
      have hb2 : bitB (b.extract p b.size) = true := by
        unfold bitB at hb ⊢
        rw [e]
        rw [List.all_eq_true] at hb ⊢
        exact fun x hx => hb x (List.mem_of_mem_drop hx)
      rw [chkE, if_pos hb2, if_neg (by omega)]
  · cases h
set_option maxRecDepth 100000 in
set_option maxHeartbeats 2000000 in
theorem coins_feeds {Kp : World → World → Prop} (M n : Nat) (hn : 1 ≤ n) (w : World) (ba bb : Nat) (a b : ByteArray) (hKr : ∀ W, Kp W W) (hKt : ∀ {A B C : World}, Kp A B → Kp B C → Kp A C) (ha : a.size ≤ 100000) (hc : chkE b = 0) (he : cPE a = 0)
    (hread : ∀ W1 W2, Below w.heap.size w W1 → Kp W1 W2 → W2.cell? ⟨ba, 0, none⟩ = some (.string a) ∧ W2.cell? ⟨bb, 0, none⟩ = some (.string b) ∧ Lay W2) (hKb : ∀ W1 W2, Below W1.heap.size W1 W2 → Kp W1 W2) :
    FeedsB M n Tryz.prog 191 #[.pointer (some ⟨ba, 0, none⟩), .pointer (some ⟨bb, 0, none⟩)] (fun x : Nat × Nat => #[.int .i64 (x.1 : Int), .int .i64 (x.2 : Int)]) Kp
      (fun pre x => (coinF (bN (cW a)) (bN (qD a)) b.data.toList (posOf pre)).1 = true ∧ x = (posOf pre + (coinF (bN (cW a)) (bN (qD a)) b.data.toList (posOf pre)).2.2, (coinF (bN (cW a)) (bN (qD a)) b.data.toList (posOf pre)).2.1))
      (fun xs => (coinF (bN (cW a)) (bN (qD a)) b.data.toList (posOf xs)).1 = false) (fun _ => True) w := by
  intro l J Jx W hW hJ hJx hY hM h0
  have HR := hid hread; have HY := hid hY; have HW := hid hW; have HJ := hid hJ; have HJx := hid hJx; have HM := hid hM
  have HKr := hid hKr; have HKt : Hid (∀ A B C : World, Kp A B → Kp B C → Kp A C) := fun A B C h k => hKt h k
  have HKb := hid hKb
  have HC := hid hc; have HE := hid he; have HA := hid ha
  clear hread hY hW hJ hJx hKr hKt hM hKb hc he ha
  refine callsIn_of_wp Tryz.func191 rfl trivial ?_ rfl
  simp only [Tryz.ntmps191, List.size_toArray, List.length_cons, List.length_nil, Nat.reduceAdd, Nat.reduceSub, Array.replicate_succ, Array.replicate_zero, List.push_toArray, List.append_toArray, List.nil_append, List.cons_append]
  gi_wp2
  obtain ⟨RR, hRR⟩ : ∃ RR : Nat → Value → World → Prop, RR = fun k i wr => ∃ pre : List (Nat × Nat), i = .int .i64 (posOf pre : Nat) ∧ posOf pre ≤ b.size ∧ k + pre.length = M ∧ J pre wr ∧ Kp W wr := ⟨_, rfl⟩
  have HRR := hid hRR
  clear hRR
  gi_loopw [4, 5, 6] (fun i x5 x6 wr => ∃ k, RR k i wr) (fun i x5 x6 wr => leastOf (fun k => RR k i wr))
  case atStart => exact ⟨M, by rw [HRR.out]; exact ⟨[], rfl, Nat.zero_le _, by simp, h0, HKr.out W⟩⟩
  case round =>
    obtain ⟨hk, hmin⟩ := leastOf_spec hrel
    obtain ⟨k, hkk⟩ : ∃ k, leastOf (fun k => RR k u4 wr) = k := ⟨_, rfl⟩
    rw [hkk] at hk hmin
    rw [HRR.out] at hk
    obtain ⟨pre, rfl, hp, hlen, hJ, hK⟩ := hk
    obtain ⟨c0, c1, hLay⟩ := HR.out W wr HW.out hK
    obtain ⟨p, hpp⟩ : ∃ p, posOf pre = p := ⟨_, rfl⟩
    obtain ⟨q1, q2, q3⟩ := bit_drop HC.out p
    have q4 := fun V hV => hid (c_Draw_ok V a (b.extract p b.size) HA.out q3 q1 HE.out hV)
    rw [q2] at q4
    obtain ⟨x, hx⟩ : ∃ x, tossAt (bN (cW a)) (bN (qD a)) (b.data.toList.drop p) 0 1 0 = x := ⟨_, rfl⟩
    rw [hx] at q4
    have hxc : coinF (bN (cW a)) (bN (qD a)) b.data.toList p = x := hx
    have hle := coinF_le (N := bN (cW a)) (D := bN (qD a)) (l := b.data.toList) (p := p) (by rw [list_size, ← hpp]; exact hp)
    rw [hxc, list_size] at hle
    have HX := hid hxc; have HLE := hid hle; have HP := hid hpp; have HLEN := hid hlen; have HJw := hid hJ; have HK := hid hK; have HLay := hid hLay
    have HREL := hid hrel; have HKK := hid hkk
    rw [hpp] at hp ⊢ HREL
    have h0 : (0 : Int) ≤ (p : Int) := by omega
    have h1 : (p : Int) ≤ (b.size : Int) := by omega
    clear hx hxc hle hpp hlen hJ hK hLay q1 q2 q3 hmin hrel hkk hp
    obtain ⟨d, v, u⟩ := x
    simp only [drawV] at q4
    gi_wp2_with fail
    refine wpIn_wide.2 ?_
    refine held_plain [0, 1, 2, 3] 7 (fun W' => W'.cell? ⟨ba, 0, none⟩ = some (.string a) ∧ W'.cell? ⟨bb, 0, none⟩ = some (.string b)) (by kernel_rfl) (by kernel_rfl) (by kernel_rfl) (by kernel_rfl) ⟨c0, c1⟩ ?_
    iterate 4
      refine ⟨_, rfl, ?_⟩
      apply Exists.intro
      refine ⟨.inl ⟨by rfl, ?_⟩, ?_⟩
      · (intro W' hW'
         obtain ⟨q1, q2⟩ := hW'
         go_simp
         try (with_reducible rfl))
      (dsimp only [Act.put]; try simp only [List.setIfInBounds_toArray, List.set_cons_zero, List.set_cons_succ])
    refine held_two (i := 4) (j := 8) (by kernel_rfl) (by rfl) (by rfl) (by rfl) (by rfl) ?_ ?_
    · go_wp2_with fail
      refine (q4 _ (HLay.out.call (Below.refl _ _).drew)).out.mono ?_; rintro e w1 ⟨rfl, hb1⟩
      have y1 := hid (show Below wr.heap.size wr w1 from (Below.refl _ _).drew.trans hb1)
      have s0 := (y1.out.cell (cell_lt c0)).trans c0
      have s1 := (y1.out.cell (cell_lt c1)).trans c1
      clear hb1
      go_wp2_with fail
      refine ⟨⟨s0, s1⟩, ?_⟩
      refine held_more (is := [5, 6, 7]) (g := 3) (by kernel_rfl) rfl ⟨s0, s1⟩ (by kernel_rfl) ?_
      iterate 3
        refine ⟨_, rfl, ?_⟩
        apply Exists.intro
        refine ⟨.inl ⟨by rfl, ?_⟩, ?_⟩
        · (intro W' hW'
           clear hW'
           go_simp
           try (with_reducible rfl))
        (dsimp only [Act.put]; try simp only [List.setIfInBounds_toArray, List.set_cons_zero, List.set_cons_succ])
      refine held_one (i := 8) (by kernel_rfl) (by rfl) (by rfl) ?_
      go_wp2_with fail
      have s2 := ((Below.refl w1.heap.size w1).alloc (Nat.le_refl _) (.cells #[.bool false, .int .i64 0, .int .i64 0] 53))
      have s3 := (s2.cell (cell_lt s0)).trans s0
      have s4 := (s2.cell (cell_lt s1)).trans s1
      refine ⟨⟨s3, s4⟩, ?_⟩
      refine held_one (i := 9) (by kernel_rfl) (by rfl) (by rfl) ?_
      have bk := Blk.new w1 #[.bool false, .int .i64 0, .int .i64 0] 53
      have r0 : (w1.alloc (.cells #[.bool false, .int .i64 0, .int .i64 0] 53)).cell? ⟨w1.heap.size, 0, none⟩ = some (.bool false) := bk.cell 0
      have r1 : (w1.alloc (.cells #[.bool false, .int .i64 0, .int .i64 0] 53)).cell? ⟨w1.heap.size, 1, none⟩ = some (.int .i64 0) := bk.cell 1
      have r2 : (w1.alloc (.cells #[.bool false, .int .i64 0, .int .i64 0] 53)).cell? ⟨w1.heap.size, 2, none⟩ = some (.int .i64 0) := bk.cell 2
      have f0 := bk.free 0
      have f1 := bk.free 1
      have f2 := bk.free 2
      obtain ⟨dB, hdB⟩ : ∃ n, w1.heap.size = n := ⟨_, rfl⟩
      have HDB := hid hdB
      have LT0 := hid (cell_lt s0); have LT1 := hid (cell_lt s1)
      obtain ⟨w2, hw2⟩ : ∃ w2, w1.alloc (.cells #[.bool false, .int .i64 0, .int .i64 0] 53) = w2 := ⟨_, rfl⟩
      rw [hw2] at s3 s4 bk r0 r1 r2 f0 f1 f2 ⊢
      rw [hw2] at s2
      rw [hdB] at bk r0 r1 r2 f0 f1 f2 s2 LT0 LT1 ⊢
      have BK := hid bk
      have y2 := hid (y1.out.trans (s2.mono (by have := y1.out.size; omega)))
      clear s0 s1 s2 hdB hw2 bk
      go_wp2_with fail
      have bk3 : Blk (((w2.setCell ⟨dB, 0, none⟩ (.bool d)).setCell ⟨dB, 1, none⟩ (.int .i64 (v : Nat))).setCell ⟨dB, 2, none⟩ (.int .i64 (u : Nat))) dB #[.bool d, .int .i64 (v : Nat), .int .i64 (u : Nat)] 53 := by
        have := ((BK.out.set 0 (.bool d)).set 1 (.int .i64 (v : Nat))).set 2 (.int .i64 (u : Nat))
        simpa using this
      have y3 : Below wr.heap.size wr (((w2.setCell ⟨dB, 0, none⟩ (.bool d)).setCell ⟨dB, 1, none⟩ (.int .i64 (v : Nat))).setCell ⟨dB, 2, none⟩ (.int .i64 (u : Nat))) :=
        have hge : wr.heap.size ≤ dB := by rw [← HDB.out]; exact y1.out.size
        ((y2.out.setCell hge _).setCell hge _).setCell hge _
      obtain ⟨V, hV⟩ : ∃ V, ((w2.setCell ⟨dB, 0, none⟩ (.bool d)).setCell ⟨dB, 1, none⟩ (.int .i64 (v : Nat))).setCell ⟨dB, 2, none⟩ (.int .i64 (u : Nat)) = V := ⟨_, rfl⟩
      rw [hV] at bk3 y3 ⊢
      have s5 := (y3.cell (cell_lt c0)).trans c0
      have s6 := (y3.cell (cell_lt c1)).trans c1
      have BV := hid bk3; have YV := hid y3
      clear hV bk3 y3 r0 r1 r2 f0 f1 f2 s3 s4
      refine ⟨⟨s5, s6⟩, ?_⟩
      refine held_one (i := 10) (by kernel_rfl) (by rfl) (by rfl) ?_
      go_wp2_with fail
      refine ⟨⟨s5, s6⟩, ?_⟩
      refine wpAnyH_done (by kernel_rfl) ?_ _
      simp only [Only]
      have e0 : V.cell? ⟨dB, 0, none⟩ = some (.bool d) := BV.out.cell 0
      have e1 : V.cell? ⟨dB, 1, none⟩ = some (.int .i64 (v : Nat)) := BV.out.cell 1
      have e2 : V.cell? ⟨dB, 2, none⟩ = some (.int .i64 (u : Nat)) := BV.out.cell 2
      have ew : IntKind.i64.wrap ((p : Int) + (u : Nat)) = ((p + u : Nat) : Int) := by
        have h2 := HLE.out
        have h3 := (bit_drop HC.out 0).2.2
        have h4 : b.size ≤ 256 := by
          have h5 := (bit_drop HC.out 0).2.1
          have h6 := list_size (b.extract 0 b.size)
          rw [h5, List.drop_zero, list_size] at h6
          omega
        rw [IntWalk.i64_in _ ⟨by omega, by omega⟩]
        omega
      clear s5 s6
      have hJV : J pre V := HJ.out pre wr V none HJw.out ⟨YV.out.os, YV.out.tape, YV.out.output, YV.out.size, fun k hk _ => YV.out.block k hk⟩ (fun r e => by cases e)
      have hKV : Kp W V := HKt.out _ _ _ HK.out (HKb.out _ _ YV.out)
      have HJV := hid hJV; have HKV := hid hKV
      clear hJV hKV
      cases d
      · gi_wp2_with fail
        refine ⟨fun f hf => (by cases hf), ?_⟩
        gi_wp2_with fail
        refine bodyPost_ret (results_none rfl _ _ _) rfl ?_
        exact ⟨⟨_, rfl⟩, .inl ⟨pre, by rw [HP.out, HX.out], HJV.out⟩⟩
      · obtain ⟨fn, tmps, assign, body, hy, hR⟩ := HY.out pre (p + u, v) V ⟨by rw [HP.out, HX.out], by rw [HP.out, HX.out]⟩ HJV.out
        dsimp only at hy
        rw [Int.natCast_add] at hy
        have HYR := hid hR
        gi_wp2_with fail
        refine HYR.out.mono ?_
        rintro e W3 (⟨rfl, hJ3, hk3⟩ | ⟨rfl, hJx3⟩)
        · have hM3 := HM.out _ _ hJ3
          rw [List.length_append, List.length_singleton] at hM3
          have RN := hid (show RR (k - 1) (.int .i64 ((p : Int) + (u : Nat))) W3 from by
            rw [HRR.out]
            refine ⟨pre ++ [(p + u, v)], by rw [posOf_snoc, Int.natCast_add], by rw [posOf_snoc]; exact HLE.out, ?_, hJ3, HKt.out _ _ _ HKV.out hk3⟩
            rw [List.length_append, List.length_singleton]
            have := HLEN.out
            omega)
          have HK1 := hid (show 1 ≤ k from by have := HLEN.out; omega)
          clear hJ3 hk3 hM3 hy hR
          gi_wp2_with fail
          go_roundw
          case rel => exact ⟨_, RN.out⟩
          case measure =>
            have h1 := (leastOf_spec (p := fun k => RR k (.int .i64 ((p : Int) + (u : Nat))) W3) ⟨_, RN.out⟩).2 _ RN.out
            have h2 := HKK.out
            rw [HP.out] at h2
            have h3 := HK1.out
            show leastOf (fun k => RR k (.int .i64 ((p : Int) + (u : Nat))) W3) < leastOf (fun k => RR k (.int .i64 (p : Nat)) wr)
            rw [h2]
            omega
        · clear hy hR
          gi_wp2_with fail
          refine bodyPost_ret (results_none rfl _ _ _) rfl ?_
          exact ⟨⟨_, rfl⟩, .inr ⟨_, trivial, hJx3⟩⟩
    · go_wp2_with fail
      have b0 : Blk (wr.alloc (.cells #[.bool false, .int .i64 0, .int .i64 0] 53)).drew wr.heap.size #[.bool false, .int .i64 0, .int .i64 0] 53 := Blk.new wr #[.bool false, .int .i64 0, .int .i64 0] 53
      have a0 : Below wr.heap.size wr (wr.alloc (.cells #[.bool false, .int .i64 0, .int .i64 0] 53)).drew := ((Below.refl _ _).alloc (Nat.le_refl _) _).drew
      obtain ⟨dB, hdB⟩ : ∃ n, wr.heap.size = n := ⟨_, rfl⟩
      have HDB := hid hdB
      obtain ⟨w1, hw1⟩ : ∃ w1, (wr.alloc (.cells #[.bool false, .int .i64 0, .int .i64 0] 53)).drew = w1 := ⟨_, rfl⟩
      rw [hw1] at b0 a0 ⊢
      rw [hdB] at b0 ⊢
      have A0 := hid a0; have BB0 := hid b0
      have s0 := (a0.cell (cell_lt c0)).trans c0
      have s1 := (a0.cell (cell_lt c1)).trans c1
      clear hw1 hdB a0 b0
      refine ⟨⟨s0, s1⟩, ?_⟩
      refine held_one (i := 4) (by kernel_rfl) (by rfl) (by rfl) ?_
      go_wp2_with fail
      refine (q4 _ (HLay.out.call A0.out)).out.mono ?_; rintro e w2 ⟨rfl, hb2⟩
      have y2 := hid (A0.out.trans (hb2.mono A0.out.size))
      have BK := hid (BB0.out.call hb2)
      have s3 := (y2.out.cell (cell_lt c0)).trans c0
      have s4 := (y2.out.cell (cell_lt c1)).trans c1
      clear hb2 s0 s1
      go_wp2_with fail
      refine ⟨⟨s3, s4⟩, ?_⟩
      refine held_more (is := [5, 6, 7]) (g := 2) (by kernel_rfl) rfl ⟨s3, s4⟩ (by kernel_rfl) ?_
      iterate 3
        refine ⟨_, rfl, ?_⟩
        apply Exists.intro
        refine ⟨.inl ⟨by rfl, ?_⟩, ?_⟩
        · (intro W' hW'
           clear hW'
           go_simp
           try (with_reducible rfl))
        (dsimp only [Act.put]; try simp only [List.setIfInBounds_toArray, List.set_cons_zero, List.set_cons_succ])
      have r0 : w2.cell? ⟨dB, 0, none⟩ = some (.bool false) := BK.out.cell 0
      have r1 : w2.cell? ⟨dB, 1, none⟩ = some (.int .i64 0) := BK.out.cell 1
      have r2 : w2.cell? ⟨dB, 2, none⟩ = some (.int .i64 0) := BK.out.cell 2
      have f0 := BK.out.free 0
      have f1 := BK.out.free 1
      have f2 := BK.out.free 2
      refine held_one (i := 9) (by kernel_rfl) (by rfl) (by rfl) ?_
      go_wp2_with fail
      have bk3 : Blk (((w2.setCell ⟨dB, 0, none⟩ (.bool d)).setCell ⟨dB, 1, none⟩ (.int .i64 (v : Nat))).setCell ⟨dB, 2, none⟩ (.int .i64 (u : Nat))) dB #[.bool d, .int .i64 (v : Nat), .int .i64 (u : Nat)] 53 := by
        have := ((BK.out.set 0 (.bool d)).set 1 (.int .i64 (v : Nat))).set 2 (.int .i64 (u : Nat))
        simpa using this
      have y3 : Below wr.heap.size wr (((w2.setCell ⟨dB, 0, none⟩ (.bool d)).setCell ⟨dB, 1, none⟩ (.int .i64 (v : Nat))).setCell ⟨dB, 2, none⟩ (.int .i64 (u : Nat))) :=
        have hge : wr.heap.size ≤ dB := by rw [← HDB.out]; exact Nat.le_refl _
        ((y2.out.setCell hge _).setCell hge _).setCell hge _
      obtain ⟨V, hV⟩ : ∃ V, ((w2.setCell ⟨dB, 0, none⟩ (.bool d)).setCell ⟨dB, 1, none⟩ (.int .i64 (v : Nat))).setCell ⟨dB, 2, none⟩ (.int .i64 (u : Nat)) = V := ⟨_, rfl⟩
      rw [hV] at bk3 y3 ⊢
      have s5 := (y3.cell (cell_lt c0)).trans c0
      have s6 := (y3.cell (cell_lt c1)).trans c1
      have BV := hid bk3; have YV := hid y3
      clear hV bk3 y3 r0 r1 r2 f0 f1 f2 s3 s4
      refine ⟨⟨s5, s6⟩, ?_⟩
      refine held_one (i := 10) (by kernel_rfl) (by rfl) (by rfl) ?_
      go_wp2_with fail
      refine ⟨⟨s5, s6⟩, ?_⟩
      refine wpAnyH_done (by kernel_rfl) ?_ _
      simp only [Only]
      have e0 : V.cell? ⟨dB, 0, none⟩ = some (.bool d) := BV.out.cell 0
      have e1 : V.cell? ⟨dB, 1, none⟩ = some (.int .i64 (v : Nat)) := BV.out.cell 1
      have e2 : V.cell? ⟨dB, 2, none⟩ = some (.int .i64 (u : Nat)) := BV.out.cell 2
      have ew : IntKind.i64.wrap ((p : Int) + (u : Nat)) = ((p + u : Nat) : Int) := by
        have h2 := HLE.out
        have h3 := (bit_drop HC.out 0).2.2
        have h4 : b.size ≤ 256 := by
          have h5 := (bit_drop HC.out 0).2.1
          have h6 := list_size (b.extract 0 b.size)
          rw [h5, List.drop_zero, list_size] at h6
          omega
        rw [IntWalk.i64_in _ ⟨by omega, by omega⟩]
        omega
      clear s5 s6
      have hJV : J pre V := HJ.out pre wr V none HJw.out ⟨YV.out.os, YV.out.tape, YV.out.output, YV.out.size, fun k hk _ => YV.out.block k hk⟩ (fun r e => by cases e)
      have hKV : Kp W V := HKt.out _ _ _ HK.out (HKb.out _ _ YV.out)
      have HJV := hid hJV; have HKV := hid hKV
      clear hJV hKV
      cases d
      · gi_wp2_with fail
        refine ⟨fun f hf => (by cases hf), ?_⟩
        gi_wp2_with fail
        refine bodyPost_ret (results_none rfl _ _ _) rfl ?_
        exact ⟨⟨_, rfl⟩, .inl ⟨pre, by rw [HP.out, HX.out], HJV.out⟩⟩
      · obtain ⟨fn, tmps, assign, body, hy, hR⟩ := HY.out pre (p + u, v) V ⟨by rw [HP.out, HX.out], by rw [HP.out, HX.out]⟩ HJV.out
        dsimp only at hy
        rw [Int.natCast_add] at hy
        have HYR := hid hR
        gi_wp2_with fail
        refine HYR.out.mono ?_
        rintro e W3 (⟨rfl, hJ3, hk3⟩ | ⟨rfl, hJx3⟩)
        · have hM3 := HM.out _ _ hJ3
          rw [List.length_append, List.length_singleton] at hM3
          have RN := hid (show RR (k - 1) (.int .i64 ((p : Int) + (u : Nat))) W3 from by
            rw [HRR.out]
            refine ⟨pre ++ [(p + u, v)], by rw [posOf_snoc, Int.natCast_add], by rw [posOf_snoc]; exact HLE.out, ?_, hJ3, HKt.out _ _ _ HKV.out hk3⟩
            rw [List.length_append, List.length_singleton]
            have := HLEN.out
            omega)
          have HK1 := hid (show 1 ≤ k from by have := HLEN.out; omega)
          clear hJ3 hk3 hM3 hy hR
          gi_wp2_with fail
          go_roundw
          case rel => exact ⟨_, RN.out⟩
          case measure =>
            have h1 := (leastOf_spec (p := fun k => RR k (.int .i64 ((p : Int) + (u : Nat))) W3) ⟨_, RN.out⟩).2 _ RN.out
            have h2 := HKK.out
            rw [HP.out] at h2
            have h3 := HK1.out
            show leastOf (fun k => RR k (.int .i64 ((p : Int) + (u : Nat))) W3) < leastOf (fun k => RR k (.int .i64 (p : Nat)) wr)
            rw [h2]
            omega
        · clear hy hR
          gi_wp2_with fail
          refine bodyPost_ret (results_none rfl _ _ _) rfl ?_
          exact ⟨⟨_, rfl⟩, .inr ⟨_, trivial, hJx3⟩⟩
end Go.Proofs.YtgphopkifomffaaGreatDoor
namespace Go.Proofs.YtgphopkifomffaaGreatDoor
open Go.RowKit Go.Shelf
open Go.Lib (decDigits nDigits)
set_option linter.unusedVariables false
set_option linter.unusedSimpArgs false
attribute [local go_sem] Oper.semAt_some
structure KpS (n0 b1 b2 : Nat) (W W' : World) : Prop where
  size : W.heap.size ≤ W'.heap.size
  rest : n0 ≤ W.heap.size → b1 < W.heap.size → b2 < W.heap.size → Below n0 W W' ∧ W'.heap[b1]? = W.heap[b1]? ∧ W'.heap[b2]? = W.heap[b2]?
theorem KpS.refl (n0 b1 b2 : Nat) (W : World) : KpS n0 b1 b2 W W := ⟨Nat.le_refl _, fun _ _ _ => ⟨Below.refl _ _, rfl, rfl⟩⟩
theorem KpS.trans {n0 b1 b2 : Nat} {A B C : World} (h : KpS n0 b1 b2 A B) (k : KpS n0 b1 b2 B C) : KpS n0 b1 b2 A C :=
  ⟨Nat.le_trans h.size k.size, fun h1 h2 h3 => by
    obtain ⟨x, y, z⟩ := h.rest h1 h2 h3
    obtain ⟨x', y', z'⟩ := k.rest (Nat.le_trans h1 h.size) (Nat.lt_of_lt_of_le h2 h.size) (Nat.lt_of_lt_of_le h3 h.size)
    exact ⟨x.trans x', y'.trans y, z'.trans z⟩⟩
theorem KpS.of_below {n0 b1 b2 : Nat} {W W' : World} (h : Below W.heap.size W W') : KpS n0 b1 b2 W W' := ⟨h.size, fun h1 h2 h3 => ⟨h.mono h1, h.block _ h2, h.block _ h3⟩⟩
theorem KpS.put {n0 b1 b2 : Nat} {w : World} (h1 : n0 ≤ w.heap.size) (h2 : b1 < w.heap.size) (h3 : b2 < w.heap.size) (W : World) (l : Nat) (o o' : Obj) (hl : w.heap.size ≤ l) (h : W.heap[l]? = some o) (hc : o.isCells = false) (hw : o.isWalk = false) : KpS n0 b1 b2 W (W.putObj l o') := by
  have hs : W.heap.size ≤ (W.putObj l o').heap.size := by simp [World.putObj]
  refine ⟨hs, fun _ _ _ => ⟨?_, ?_, ?_⟩⟩
  · exact ⟨rfl, rfl, rfl, hs, fun k hk => World.putObj_heap_other (by omega)⟩
  · exact World.putObj_heap_other (by omega)
  · exact World.putObj_heap_other (by omega)
def SerI (B many N D : Nat) (l : List UInt8) (pre : List (Nat × Nat)) (W : World) : Prop := ∃ m vs n v, 1 ≤ m ∧ vs.length + m = many ∧ sr N D l many 0 [] 0 = sr N D l m (posOf pre) vs n ∧ posOf pre ≤ l.length ∧
  pre.length + (l.length - posOf pre + m) ≤ l.length + many ∧ n ≤ pre.length ∧ Boxed W (B + 1) 24 v ∧ W.ownsRow B 3 1 v (vs.length + 1) (ints .i64 (vs ++ [n]))
theorem SerI.own {B C many N D : Nat} {l : List UInt8} : OwnFrom C (SerI B many N D l) := by
  rintro s X Y row ⟨m, vs, n, v, h1, h2, h3, h4, h5, h6, hv, hr⟩ hg hrow
  refine ⟨m, vs, n, v, h1, h2, h3, h4, h5, h6, hv.kept hg (fun e' => ?_), hr.kept hg ?_⟩
  · obtain ⟨-, o, ho, hc⟩ := hrow _ e'.symm
    rw [show X.heap[B + 1]? = _ from hv] at ho; cases ho; cases hc
  · rcases hr.2 with ⟨rfl, _⟩ | ⟨g, cap, cur, rfl, _, hgb, _⟩
    · exact .inl rfl
    · refine .inr fun e' => ?_
      obtain ⟨-, o, ho, hc⟩ := hrow g (by simpa [Value.ownBlock] using e'.symm)
      rw [hgb] at ho; cases ho; cases hc
def SerX (A B many N D : Nat) (l : List UInt8) (W : World) : Prop := ∃ vs x v, sr N D l many 0 [] 0 = some (vs, x) ∧ vs.length = many ∧ Blk W (A + 1) #[v] 24 ∧ Blk W (A + 1 + 1) #[.int .i64 (x : Nat)] 3 ∧ Blk W (A + 1 + 1 + 1) #[.bool true] 4 ∧ W.ownsRow B 3 1 v vs.length (ints .i64 vs)
theorem SerX.keptX {A B many N D : Nat} {l : List UInt8} {X Y : World} {row : Option Nat} (h : SerX A B many N D l X) (hg : X.grownBy Y row) (hrow : ∀ r, row = some r → ∃ o : Obj, X.heap[r]? = some o ∧ o.isCells = false) : SerX A B many N D l Y := by
  obtain ⟨vs, x, v, h1, h2, h3, h4, h5, hr⟩ := h
  refine ⟨vs, x, v, h1, h2, h3.kept hg hrow, h4.kept hg hrow, h5.kept hg hrow, hr.kept hg ?_⟩
  rcases hr.2 with ⟨rfl, _⟩ | ⟨g, cap, cur, rfl, _, hgb, _⟩
  · exact .inl rfl
  · refine .inr fun e' => ?_
    obtain ⟨o, ho, hc⟩ := hrow g (by simpa [Value.ownBlock] using e'.symm)
    rw [hgb] at ho; cases ho; cases hc
def SerOut (r : Option (List Nat × Nat)) (e : Ending) (w' : World) : Prop := match r with
  | none => e = .returned (.tuple #[.slice none 0 0, .int .i64 0, .bool false])
  | some (vs, x) => ∃ v, e = .returned (.tuple #[v, .int .i64 (x : Nat), .bool true]) ∧ Row w' v (ints .i64 vs)
set_option maxRecDepth 100000 in
set_option maxHeartbeats 4000000 in
theorem g_series (w : World) (a b : ByteArray) (many : Nat) (h1 : 1 ≤ many) (h2 : many ≤ 1000) (ha : a.size ≤ 100000) (hc : chkE b = 0) (he : cPE a = 0) (hND : bN (cW a) < bN (qD a)) (hL : Lay w) :
    Calls Tryz.prog 91 #[.string a, .string b, .int .i64 (many : Nat)] w fun e w' => SerOut (sr (bN (cW a)) (bN (qD a)) b.data.toList many 0 [] 0) e w' ∧ Below w.heap.size w w' := by
  have HL := hid hL; have HC := hid hc; have HE := hid he; have HND := hid hND; have H1 := hid h1; have H2 := hid h2; have HA := hid ha
  have hbs : b.size ≤ 256 := by
    have h5 := (bit_drop hc 0).2.1
    have h6 := list_size (b.extract 0 b.size)
    have h7 := (bit_drop hc 0).2.2
    rw [h5, List.drop_zero, list_size] at h6
    omega
  have HBS := hid hbs
  clear hL hc he hND ha hbs
  obtain ⟨N, hN⟩ : ∃ N, bN (cW a) = N := ⟨_, rfl⟩
  obtain ⟨D, hD⟩ : ∃ N, bN (qD a) = N := ⟨_, rfl⟩
  have HN := hid hN; have HD := hid hD
  rw [hN, hD] at HND ⊢
  clear hN hD
  obtain ⟨L, hL⟩ : ∃ L, b.data.toList = L := ⟨_, rfl⟩
  have HLL := hid (show L.length = b.size from by rw [← hL]; exact list_size b)
  have HLQ := hid hL
  rw [hL]
  clear hL
  refine (callsIn_wide (n := 9)).1 ?_
  refine callsIn_of_wp_marks Tryz.func91 rfl trivial ?_ rfl
  simp only [Tryz.ntmps91, List.size_toArray, List.length_cons, List.length_nil, Nat.reduceAdd, Nat.reduceSub, Array.replicate_succ, Array.replicate_zero, List.push_toArray, List.append_toArray, List.nil_append, List.cons_append]
  gi_wp2_with fail
  refine wpIn_scope ?_
  gi_wp2_with fail
  refine wpIn_label ?_
  gi_wp2_with (refine ⟨trivial, ?_⟩; gi_at_call 136; refine (callsIn_wide.2 (g_coins _ _ _)).mono ?_; rintro e w' ⟨rfl, rfl⟩)
  obtain ⟨i0, hi, hz0, hz1, hz2⟩ := info_parts info_i64
  obtain ⟨W0, hW0⟩ : ∃ W0, (((((((w.alloc (.cells #[.int .i64 (many : Nat)] 3)).alloc (.cells #[.slice none 0 0] 24)).alloc (.cells #[.int .i64 0] 3)).alloc (.cells #[.bool false] 4)).alloc (.cells #[.int .i64 0] 3)).alloc
    (.cells #[.slice (some ⟨w.heap.size + 1 + 1 + 1 + 1, 0, none⟩) 1 1] 24)).alloc (.cells #[.string a] 22)).alloc (.cells #[.string b] 34) = W0 := ⟨_, rfl⟩
  have y0 : Blk W0 w.heap.size #[.int .i64 (many : Nat)] 3 := by rw [← hW0]; exact (((((((Blk.new w _ _).alloc _).alloc _).alloc _).alloc _).alloc _).alloc _).alloc _
  have y1 : Blk W0 (w.heap.size + 1) #[.slice none 0 0] 24 := by rw [← hW0]; exact ((((((Blk.made _ _ _ (by simp)).alloc _).alloc _).alloc _).alloc _).alloc _).alloc _
  have y2 : Blk W0 (w.heap.size + 1 + 1) #[.int .i64 0] 3 := by rw [← hW0]; exact (((((Blk.made _ _ _ (by simp)).alloc _).alloc _).alloc _).alloc _).alloc _
  have y3 : Blk W0 (w.heap.size + 1 + 1 + 1) #[.bool false] 4 := by rw [← hW0]; exact ((((Blk.made _ _ _ (by simp)).alloc _).alloc _).alloc _).alloc _
  have y4 : Blk W0 (w.heap.size + 1 + 1 + 1 + 1) #[.int .i64 0] 3 := by rw [← hW0]; exact (((Blk.made _ _ _ (by simp)).alloc _).alloc _).alloc _
  have y5 : Blk W0 (w.heap.size + 1 + 1 + 1 + 1 + 1) #[.slice (some ⟨w.heap.size + 1 + 1 + 1 + 1, 0, none⟩) 1 1] 24 := by rw [← hW0]; exact ((Blk.made _ _ _ (by simp)).alloc _).alloc _
  have y6 : Blk W0 (w.heap.size + 1 + 1 + 1 + 1 + 1 + 1) #[.string a] 22 := by rw [← hW0]; exact (Blk.made _ _ _ (by simp)).alloc _
  have y7 : Blk W0 (w.heap.size + 1 + 1 + 1 + 1 + 1 + 1 + 1) #[.string b] 34 := by rw [← hW0]; exact Blk.made _ _ _ (by simp)
  have b0 : Below w.heap.size w W0 := by
    rw [← hW0]
    exact ((((((((Below.refl _ _).alloc (Nat.le_refl _) _).alloc (by simp) _).alloc (by simp <;> omega) _).alloc (by simp <;> omega) _).alloc (by simp <;> omega) _).alloc (by simp <;> omega) _).alloc (by simp <;> omega) _).alloc (by simp <;> omega) _
  have z0 : W0.heap.size = w.heap.size + 1 + 1 + 1 + 1 + 1 + 1 + 1 + 1 := by rw [← hW0]; simp
  rw [hW0]
  have Y0 := hid y0; have Y1 := hid y1; have Y2 := hid y2; have Y3 := hid y3; have Y4 := hid y4; have Y5 := hid y5; have Y6 := hid y6; have Y7 := hid y7; have HB0 := hid b0; have Z0 := hid z0
  clear y0 y1 y2 y3 y4 y5 y6 y7 b0 z0 hW0
  obtain ⟨B, hB⟩ : ∃ B, w.heap.size + 1 + 1 + 1 + 1 = B := ⟨_, rfl⟩
  rw [hB] at Y4 Y5 Y6 Y7 Z0 ⊢
  have HBB := hid hB
  clear hB
  have hread : ∀ W1 W2, Below W0.heap.size W0 W1 → KpS B (B + 1 + 1) (B + 1 + 1 + 1) W1 W2 → W2.cell? ⟨B + 1 + 1, 0, none⟩ = some (.string a) ∧ W2.cell? ⟨B + 1 + 1 + 1, 0, none⟩ = some (.string b) ∧ Lay W2 := fun W1 W2 b1 b2 => by
    have hs := b1.size
    have hz := Z0.out
    obtain ⟨r1, r2, r3⟩ := b2.rest (by omega) (by omega) (by omega)
    have g1 : Blk W2 (B + 1 + 1) #[.string a] 22 := r2.trans (Y6.out.call b1)
    have g2 : Blk W2 (B + 1 + 1 + 1) #[.string b] 34 := r3.trans (Y7.out.call b1)
    refine ⟨g1.cell 0, g2.cell 0, HL.out.call ?_⟩
    have hb := HBB.out
    exact (HB0.out.trans (b1.mono (by omega))).trans (r1.mono (by omega))
  refine range_okB (by omega) (gf := 191) (lb := #[.pointer (some ⟨B + 1 + 1, 0, none⟩), .pointer (some ⟨B + 1 + 1 + 1, 0, none⟩)]) rfl (enters_of Tryz.func191 (by kernel_rfl) rfl)
    (coins_feeds (Kp := KpS B (B + 1 + 1) (B + 1 + 1 + 1)) (L.length + many) 8 (by omega) W0 _ _ a b (KpS.refl _ _ _) KpS.trans HA.out HC.out HE.out hread (fun _ _ => KpS.of_below)) KpS.trans (KpS.put (by have := Z0.out; omega) (by have := Z0.out; omega) (by have := Z0.out; omega)) (Below.refl _ _) (fun _ => rfl)
    (fun pre W => (SerI B many N D L pre W ∧ Blk W (B + 1 + 1) #[.string a] 22 ∧ Blk W (B + 1 + 1 + 1) #[.string b] 34) ∧ Below B W0 W)
    (fun c pre W => (c = .ret ∧ SerX w.heap.size B many N D L W) ∧ Below w.heap.size w W)
    (OwnFrom.and (fun s X Y row hs hg hr => ⟨SerI.own s X Y row hs.1 hg hr, hs.2.1.kept hg (fun r e => (hr r e).2), hs.2.2.kept hg (fun r e => (hr r e).2)⟩) (ownFrom_below (by have := Z0.out; omega) (by have := Z0.out; omega)))
    (fun c => OwnFrom.and (fun s X Y row hs hg hr => ⟨hs.1, hs.2.keptX hg (fun r e => (hr r e).2)⟩) (ownFrom_below (Nat.le_refl _) (by have := Z0.out; have := HBB.out; omega)))
    ⟨⟨⟨many, [], 0, _, H1.out, by simp, rfl, Nat.zero_le _, by simp [posOf_nil], Nat.zero_le _, Y5.out, owns_one Y4.out⟩, Y6.out, Y7.out⟩, Below.refl _ _⟩
    (fun pre W h => by obtain ⟨m, vs, n, v, _, _, _, _, h5, _⟩ := h.1.1; omega) ?act ?assign ?body ?done ?stop
  case assign =>
    intro l x W K hK
    gi_wp2
    exact hK
  case body =>
    rintro l pre ⟨q, val⟩ W ⟨hd, hx⟩ ⟨⟨⟨m, vs, n, v, i1, i2, i3, i4, i5, i6, hv, hr⟩, ha6, hb7⟩, hB⟩
    rw [HN.out, HD.out, HLQ.out] at hd hx
    obtain ⟨p, hp⟩ : ∃ p, posOf pre = p := ⟨_, rfl⟩
    rw [hp] at hd hx i3 i4 i5
    have hle := coinF_le (N := N) (D := D) i4
    have hval : (coinF N D L p).2.1 ≤ 1 := by rw [coinF_eq]; exact toss_val _ _ _ _ _
    simp only [Prod.mk.injEq] at hx
    obtain ⟨hq, hvv⟩ := hx
    obtain ⟨g, cap, rfl⟩ := ownsRow_succ hr
    obtain ⟨k, hk⟩ : ∃ k, vs.length = k := ⟨_, rfl⟩
    rw [hk] at hr i2 hv
    obtain ⟨o1, o2, o3, o4, o5, o6, o7⟩ := own_slot hr
    have c0 : W.cell? ⟨g, k, none⟩ = some (.int .i64 (n : Nat)) := o4 k _ (by rw [ints_append, List.getElem?_append_right (by rw [ints_length]; omega), ints_length, hk, Nat.sub_self]; rfl)
    have c1 : W.cell? ⟨B + 1, 0, none⟩ = some (.slice (some ⟨g, 0, none⟩) (k + 1) cap) := Blk.cell hv 0
    have c2 : W.frozen? ⟨B + 1, 0, none⟩ = false := Blk.free hv 0
    have c3 : W.cell? ⟨w.heap.size, 0, none⟩ = some (.int .i64 (many : Nat)) := (Y0.out.below hB (by have := HBB.out; omega)).cell 0
    have r1 := Y1.out.below hB (by have := HBB.out; omega)
    have r2 := Y2.out.below hB (by have := HBB.out; omega)
    have r3 := Y3.out.below hB (by have := HBB.out; omega)
    have c4 := r1.cell 0
    have c5 := r2.cell 0
    have c6 := r3.cell 0
    have c7 := r1.free 0
    have c8 := r2.free 0
    have c9 := r3.free 0
    have d0 := o3 k
    simp at c4 c5 c6
    have hkm : k < 1000 := by have := H2.out; omega
    have hn : n < 3000 := by have h2 := H2.out; have h3 := HBS.out; have h4 := HLL.out; omega
    have w1 : IntKind.i64.wrap (((k + 1 : Nat) : Int) - 1) = (k : Int) := by rw [IntWalk.i64_in _ ⟨by omega, by omega⟩]; omega
    have w2 : IntKind.i64.wrap ((n : Int) + 1) = (n : Int) + 1 := by rw [IntWalk.i64_in _ ⟨by omega, by omega⟩]
    have I1 := hid i1; have I2 := hid i2; have I3 := hid i3; have I4 := hid i4; have I5 := hid i5; have I6 := hid i6; have HV := hid hv; have HR := hid hr; have HBW := hid hB; have HP := hid hp; have HD1 := hid hd; have HLE := hid hle; have HVAL := hid hval; have HQ := hid hq; have HVV := hid hvv; have HKK := hid hk
    have A6 := hid ha6; have A7 := hid hb7; have N6 := hid (o7 _ _ _ (by decide) ha6); have N7 := hid (o7 _ _ _ (by decide) hb7); have N5 := hid (o7 _ _ _ (by decide) hv)
    clear ha6 hb7
    have R1 := hid r1; have R2 := hid r2; have R3 := hid r3; have HC0 := hid o1; have HC1 := hid o2; have HO7 := hid o7
    clear i1 i2 i3 i4 i5 i6 hv hr hB hp hd hle hval hq hvv hk r1 r2 r3 o1 o2 o3 o4 o7
    by_cases h1 : val = 1
    · have q0 : ((val : Int) == 1) = true := by rw [h1]; rfl
      have HV1 := hid h1
      clear h1
      gi_wp2_with fail
      have e1 : ((n : Int) + 1) = ((n + 1 : Nat) : Int) := rfl
      have hu := coinF_one HND.out HD1.out (HVV.out.symm.trans HV1.out)
      have hser := sr_one (vs := vs) (n := n) HND.out I1.out I4.out HD1.out (HVV.out.symm.trans HV1.out)
      have hq := HQ.out; have h5 := I5.out; have h6 := I6.out; have hle := HLE.out
      refine ⟨(KeepsOthers.setCell _ _ _).from _, ⟨by simp [World.setCell], fun _ _ _ => ⟨(Below.refl _ _).setCell HC0.out _, Below.heap_setCell _ _ _ _ (fun e => N6.out e), Below.heap_setCell _ _ _ _ (fun e => N7.out e)⟩⟩, ⟨⟨m, vs, n + 1, _, I1.out, by rw [HKK.out]; exact I2.out, ?_, ?_, ?_, ?_, Blk.other HV.out (fun e => N5.out e.symm) _, ?_⟩, Blk.other A6.out (fun e => N6.out e.symm) _, Blk.other A7.out (fun e => N7.out e.symm) _⟩, HBW.out.setCell HC0.out _⟩
      · rw [posOf_snoc, I3.out, hser, hq]
      · rw [posOf_snoc]; show q ≤ _; omega
      · rw [posOf_snoc, List.length_append, List.length_singleton]; show pre.length + 1 + (L.length - q + m) ≤ _; omega
      · rw [List.length_append, List.length_singleton]; omega
      · rw [HKK.out]
        have h7 := own_set HR.out k (.int .i64 ((n + 1 : Nat) : Int))
        rw [ints_set, List.set_append_right _ _ (Nat.le_of_eq HKK.out), HKK.out, Nat.sub_self] at h7
        exact h7
    · have q0 : ((val : Int) == 1) = false := by rw [beq_eq_false_iff_ne]; omega
      have HV0 := hid h1
      have hnv := hid (show ¬ (coinF N D L p).2.1 = 1 from by rw [← HVV.out]; exact h1)
      clear h1
      by_cases h2 : k + 1 = many
      · have q1 : (((k : Int) + 1) == (many : Int)) = true := by rw [beq_iff_eq]; omega
        have HM := hid h2
        clear h2
        gi_wp2_with fail
        have hm1 : m = 1 := by have := I2.out; have := HM.out; omega
        have h8 := HBB.out; have h9 := HC0.out
        have hstop := sr_stop (vs := vs) (n := n) HD1.out hnv.out
        refine ⟨(((KeepsOthers.setCell _ _ _).trans (KeepsOthers.setCell _ _ _)).trans (KeepsOthers.setCell _ _ _)).from _, ⟨rfl, vs ++ [n], q, .slice (some ⟨g, 0, none⟩) (k + 1) cap, ?_, ?_, ?_, ?_, ?_, ?_⟩, ?_⟩
        · rw [I3.out, hm1, hstop, HQ.out]
        · rw [List.length_append, HKK.out]; exact HM.out
        · exact (((R1.out.set 0 _).other (by simp) _).other (by simp <;> omega) _)
        · exact ((R2.out.other (by simp) _).set 0 _).other (by simp) _
        · exact ((R3.out.other (by simp <;> omega) _).other (by simp) _).set 0 _
        · rw [List.length_append, HKK.out]
          exact ((ownsRow_setCell_below (ownsRow_setCell_below (ownsRow_setCell_below HR.out (by simp <;> omega) _) (by simp <;> omega) _) (by simp <;> omega) _))
        · exact (((HB0.out.trans (HBW.out.mono (by omega))).setCell (by simp <;> omega) _).setCell (by simp <;> omega) _).setCell (by simp <;> omega) _
      · have q1 : (((k : Int) + 1) == (many : Int)) = false := by rw [beq_eq_false_iff_ne]; omega
        have HM := hid h2
        clear h2
        gi_wp2_with (gi_at_builtin; refine wpListIn_append_own _ rfl _ _ 24 rfl B 3 i0 (.int .i64 0) 1 8 Tryz.underlying24 hi hz0 hz1 hz2 rfl (by decide) _ (k + 1) _ rfl (HR.out.alloc _) ⟨W.heap.size, 0, none⟩ 1 1 [.int .i64 0] rfl rfl (cell_one_new W (.int .i64 0) 3) (by simp [Value.oneCell']) (by unfold maxLen; omega) (by omega) (by have := HC0.out; have := HC1.out; simp; omega) ?_; intro v' w3 hown3 hgrow3 _
                     obtain ⟨g2, cap2, rfl⟩ := ownsRow_succ hown3
                     obtain ⟨e1, e2, e3, e4, e5⟩ := Boxed.appended (B := B + 1) HV.out (by decide) HR.out (by have := HC0.out; have := HC1.out; omega) (Nat.le_succ B) hown3 hgrow3
                     have k0 := e1.cell
                     have k1 := e1.frozen
                     have E1 := hid e1; have E2 := hid e2; have E3 := hid e3; have E4 := hid e4; have E5 := hid e5; have HG3 := hid hgrow3
                     clear e1 e2 e3 e4 e5 hown3 hgrow3)
        have hm2 : 2 ≤ m := by have := I1.out; have := I2.out; have := HM.out; omega
        have hser := sr_more (vs := vs) (n := n) HND.out hm2 I4.out HD1.out hnv.out
        have hq := HQ.out; have h5 := I5.out; have h6 := I6.out; have hle := HLE.out
        have hg : (W.alloc (.cells #[.int .i64 0] 3)).grownBy w3 (some g) := HG3.out
        have A6' := (((A6.out.alloc (.cells #[.int .i64 0] 3)).grown hg (fun e => N6.out (by cases e; rfl))).other (a := ⟨B + 1, 0, none⟩) (by simp) (.slice (some ⟨g2, 0, none⟩) (k + 1 + 1) cap2))
        have A7' := (((A7.out.alloc (.cells #[.int .i64 0] 3)).grown hg (fun e => N7.out (by cases e; rfl))).other (a := ⟨B + 1, 0, none⟩) (by simp <;> omega) (.slice (some ⟨g2, 0, none⟩) (k + 1 + 1) cap2))
        refine ⟨E4.out.from _, ⟨E5.out.size, fun _ _ _ => ⟨E5.out, A6'.trans (Eq.symm A6.out), A7'.trans (Eq.symm A7.out)⟩⟩, ⟨⟨m - 1, vs ++ [n], 0, _, by omega, by rw [List.length_append, HKK.out]; have := I2.out; simp <;> omega, ?_, ?_, ?_, Nat.zero_le _, E2.out, ?_⟩, A6', A7'⟩, HBW.out.trans E5.out⟩
        · rw [posOf_snoc, I3.out, hser, hq]
        · rw [posOf_snoc]; show q ≤ _; omega
        · rw [posOf_snoc, List.length_append, List.length_singleton]; show pre.length + 1 + (L.length - q + (m - 1)) ≤ _; omega
        · have h7 := E3.out
          rw [List.length_append, List.length_singleton, HKK.out, ints_append]
          exact h7
  case done =>
    rintro D' xs W hD hS ⟨⟨⟨m, vs, n, v, i1, i2, i3, i4, i5, i6, hv, hr⟩, ha6, hb7⟩, hB⟩ hK
    rw [HN.out, HD.out, HLQ.out] at hS
    have hsn := hid (i3.trans (sr_late i1 hS))
    have r1 := Y1.out.below hB (by have := HBB.out; omega)
    have r2 := Y2.out.below hB (by have := HBB.out; omega)
    have r3 := Y3.out.below hB (by have := HBB.out; omega)
    have c4 := r1.cell 0
    have c5 := r2.cell 0
    have c6 := r3.cell 0
    have c7 := r1.free 0
    have c8 := r2.free 0
    have c9 := r3.free 0
    simp at c4 c5 c6
    have R1 := hid r1; have R2 := hid r2; have R3 := hid r3; have HBW := hid hB; have HK := hid hK; have HDD := hid hD
    clear i1 i2 i3 i4 i5 i6 hv hr ha6 hb7 hB hK hS r1 r2 r3 hD
    gi_wp2_with fail
    have q1 := ((R1.out.set 0 (.slice none 0 0)).other (a := ⟨w.heap.size + 1 + 1, 0, none⟩) (by simp) (.int .i64 0)).other (a := ⟨w.heap.size + 1 + 1 + 1, 0, none⟩) (by simp <;> omega) (.bool false)
    have q2 := ((R2.out.other (a := ⟨w.heap.size + 1, 0, none⟩) (by simp) (.slice none 0 0)).set 0 (.int .i64 0)).other (a := ⟨w.heap.size + 1 + 1 + 1, 0, none⟩) (by simp) (.bool false)
    have q3 := ((R3.out.other (a := ⟨w.heap.size + 1, 0, none⟩) (by simp <;> omega) (.slice none 0 0)).other (a := ⟨w.heap.size + 1 + 1, 0, none⟩) (by simp) (.int .i64 0)).set 0 (.bool false)
    have hk3 := ((((KeepsOthers.setCell W ⟨w.heap.size + 1, 0, none⟩ (.slice none 0 0)).trans (KeepsOthers.setCell _ ⟨w.heap.size + 1 + 1, 0, none⟩ (.int .i64 0))).trans (KeepsOthers.setCell _ ⟨w.heap.size + 1 + 1 + 1, 0, none⟩ (.bool false)))).same D' _ HK.out rfl
    have p1 := (q1.put hk3 (.deferred none)).cell 0
    have p2 := (q2.put hk3 (.deferred none)).cell 0
    have p3 := (q3.put hk3 (.deferred none)).cell 0
    simp at p1 p2 p3
    have h8 := HBB.out; have h9 := HDD.out; have hz := Z0.out
    refine marks_end hk3 (v := .tuple #[.slice none 0 0, .int .i64 0, .bool false]) (by simp [results, Tryz.results91, go_sem, p1, p2, p3]) ⟨by rw [hsn.out]; first | done | rfl, ?_⟩
    exact ((((HB0.out.trans (HBW.out.mono (by omega))).setCell (by simp <;> omega) _).setCell (by simp <;> omega) _).setCell (by simp <;> omega) _).trans (belowK_b (w := w) (Nat.le_refl _) _ D' _ _ (by omega) hk3 rfl rfl)
  case stop =>
    rintro D' c pre W hD - ⟨⟨rfl, vs, x, v, h1, h2, h3, h4, h5, hr⟩, hB⟩ hK
    have p1 := (h3.put hK (.deferred none)).cell 0
    have p2 := (h4.put hK (.deferred none)).cell 0
    have p3 := (h5.put hK (.deferred none)).cell 0
    have hrow : Row (W.putObj D' (.deferred none)) v (ints .i64 vs) := Row.put (Row.of_owns hr) hK _
    simp at p1 p2 p3
    have H1' := hid h1; have HROW := hid hrow; have HB' := hid hB; have HK := hid hK; have HDD := hid hD
    obtain ⟨a3, c3, rfl⟩ := owns_ex hr
    clear h1 h3 h4 h5 hr hrow hB hD
    gi_wp2_with fail
    have h8 := HBB.out; have h9 := HDD.out; have hz := Z0.out
    refine marks_end hK (v := .tuple #[.slice a3 vs.length c3, .int .i64 (x : Nat), .bool true]) (by simp [results, Tryz.results91, go_sem, p1, p2, p3]) ⟨?_, ?_⟩
    · rw [H1'.out]; exact ⟨_, rfl, HROW.out⟩
    · exact HB'.out.trans (belowK_b (w := w) (Nat.le_refl _) _ D' _ _ (by omega) hK rfl rfl)
end Go.Proofs.YtgphopkifomffaaGreatDoor
namespace Go.Proofs.YtgphopkifomffaaGreatDoor
open Go.RowKit Go.Shelf
open Go.Lib (decDigits nDigits)
set_option linter.unusedVariables false
set_option linter.unusedSimpArgs false
theorem gPE_ok {p : ByteArray} (h : gPE p = 0) : cPE p = 0 ∧ bN (cW p) < bN (qD p) := by
  unfold gPE at h
  split at h
  · rename_i he
    exact absurd h he
  · rename_i he
    have he' : qE p = 0 := Decidable.not_not.1 he
    split at h
    · cases h
    · rename_i h2
      split at h
      · cases h
      · rename_i h3
        obtain ⟨a, b, c, d, e1, e2⟩ := parts_ok he' (fun h => h2 (.inl h)) h3
        have h4 : ¬ 0 ≤ cmpN (cW p).data.toList (qD p).data.toList := fun h => h2 (.inr h)
        refine ⟨?_, ?_⟩
        · rw [cPE, if_neg he, if_neg (fun h => ?_), if_neg h3]
          rcases h with h | h
          · exact h2 (.inl h)
          · exact h4 (by omega)
        · rw [cmpN, if_pos ⟨e1, e2⟩, ordN] at h4
          show dv _ < dv _
          split at h4
          · assumption
          · split at h4 <;> simp at h4
theorem gE_ok {a b : ByteArray} (h : gE a b = 0) : gPE a = 0 ∧ chkE b = 0 := by
  unfold gE at h
  split at h
  · rename_i h1; exact absurd h h1
  · rename_i h1; exact ⟨Decidable.not_not.1 h1, h⟩
set_option maxRecDepth 100000 in
set_option maxHeartbeats 1000000 in
theorem g_draw_none (w : World) (a b : ByteArray) (many : Nat) (h1 : 1 ≤ many) (h2 : many ≤ 1000) (ha : a.size ≤ 100000) (hb : b.size ≤ 100000) (he : gE a b = 0) (hL : Lay w)
    (hr : sr (bN (cW a)) (bN (qD a)) b.data.toList many 0 [] 0 = none) :
    Calls Tryz.prog 50 #[.string a, .string b, .int .i64 (many : Nat)] w fun e w' => e = .returned (.tuple #[.agg #[.bool false, .int .i64 0, .int .i64 (b.size : Nat)], .int .i64 0]) ∧ Below w.heap.size w w' := by
  have HC := fun V hV => hid (g_check V a b ha hb hV)
  have HS := fun V hV => hid (g_series V a b many h1 h2 ha (gE_ok he).2 (gPE_ok (gE_ok he).1).1 (gPE_ok (gE_ok he).1).2 hV)
  rw [he] at HC
  rw [hr] at HS
  simp only [SerOut] at HS
  have HL := hid hL
  have b0 := hid ((Below.refl w.heap.size w).alloc (Nat.le_refl _) (.cells #[.bool false, .int .i64 0, .int .i64 0] 53))
  have x0 := hid (Blk.new w #[.bool false, .int .i64 0, .int .i64 0] 53)
  clear h1 h2 ha hb he hL hr
  go_enter Tryz.func50, Tryz.ntmps50
  go_wp2_with fail
  refine (HC _ (HL.out.call b0.out)).out.mono ?_; rintro e w1 ⟨rfl, hb1⟩
  have b1 := hid (bnext b0.out hb1); have x1 := hid (x0.out.call hb1)
  clear hb1
  go_wp2_with fail
  refine (HS _ (HL.out.call b1.out)).out.mono ?_; rintro e w2 ⟨rfl, hb2⟩
  have b2 := hid (bnext b1.out hb2); have x2 := hid (x1.out.call hb2)
  have r0 : w2.cell? ⟨w.heap.size, 0, none⟩ = some (.bool false) := x2.out.cell 0
  have r1 : w2.cell? ⟨w.heap.size, 1, none⟩ = some (.int .i64 0) := x2.out.cell 1
  have r2 : w2.cell? ⟨w.heap.size, 2, none⟩ = some (.int .i64 0) := x2.out.cell 2
  have f0 := x2.out.free 0
  have f1 := x2.out.free 1
  have f2 := x2.out.free 2
  clear hb2
  go_wp2_with fail
  have s3 := ((x2.out.set 0 (.bool false)).set 1 (.int .i64 0)).set 2 (.int .i64 (b.size : Nat))
  have k0 := s3.cell 0
  have k1 := s3.cell 1
  have k2 := s3.cell 2
  simp at k0 k1 k2
  refine bodyPost_ret (v := .tuple #[.agg #[.bool false, .int .i64 0, .int .i64 (b.size : Nat)], .int .i64 0]) (by simp [results, Tryz.results50, go_sem, k0, k1, k2]) rfl ⟨rfl, ?_⟩
  exact ((b2.out.setCell (Nat.le_refl _) _).setCell (Nat.le_refl _) _).setCell (Nat.le_refl _) _
set_option maxRecDepth 100000 in
set_option maxHeartbeats 1000000 in
theorem g_draw_bad (w : World) (a b : ByteArray) (many : Nat) (ha : a.size ≤ 100000) (hb : b.size ≤ 100000) (he : gE a b ≠ 0) (hL : Lay w) :
    Calls Tryz.prog 50 #[.string a, .string b, .int .i64 (many : Nat)] w fun e w' => e = .returned (.tuple #[.agg #[.bool false, .int .i64 0, .int .i64 0], .int .i64 (gE a b)]) ∧ Below w.heap.size w w' := by
  have HC := fun V hV => hid (g_check V a b ha hb hV)
  obtain ⟨x, hx⟩ : ∃ x, gE a b = x := ⟨_, rfl⟩
  rw [hx] at HC he ⊢
  have q0 : (x == 0) = false := by simpa using he
  have q1 : (x != 0) = true := by simpa using he
  have HL := hid hL
  have b0 := hid ((Below.refl w.heap.size w).alloc (Nat.le_refl _) (.cells #[.bool false, .int .i64 0, .int .i64 0] 53))
  have x0 := hid (Blk.new w #[.bool false, .int .i64 0, .int .i64 0] 53)
  clear ha hb he hL hx
  go_enter Tryz.func50, Tryz.ntmps50
  go_wp2_with fail
  refine (HC _ (HL.out.call b0.out)).out.mono ?_; rintro e w2 ⟨rfl, hb2⟩
  have b2 := hid (bnext b0.out hb2); have x2 := hid (x0.out.call hb2)
  have r0 : w2.cell? ⟨w.heap.size, 0, none⟩ = some (.bool false) := x2.out.cell 0
  have r1 : w2.cell? ⟨w.heap.size, 1, none⟩ = some (.int .i64 0) := x2.out.cell 1
  have r2 : w2.cell? ⟨w.heap.size, 2, none⟩ = some (.int .i64 0) := x2.out.cell 2
  have f0 := x2.out.free 0
  have f1 := x2.out.free 1
  have f2 := x2.out.free 2
  clear hb2
  go_wp2_with fail
  have s3 := ((x2.out.set 0 (.bool false)).set 1 (.int .i64 0)).set 2 (.int .i64 0)
  have k0 := s3.cell 0
  have k1 := s3.cell 1
  have k2 := s3.cell 2
  simp at k0 k1 k2
  refine bodyPost_ret (v := .tuple #[.agg #[.bool false, .int .i64 0, .int .i64 0], .int .i64 x]) (by simp [results, Tryz.results50, go_sem, k0, k1, k2]) rfl ⟨rfl, ?_⟩
  exact ((b2.out.setCell (Nat.le_refl _) _).setCell (Nat.le_refl _) _).setCell (Nat.le_refl _) _
set_option maxRecDepth 100000 in
set_option maxHeartbeats 1000000 in
theorem g_draw_one (w : World) (a b : ByteArray) (x p : Nat) (hx : x ≤ 100000) (hp : p ≤ 100000) (ha : a.size ≤ 100000) (hb : b.size ≤ 100000) (he : gE a b = 0) (hL : Lay w)
    (hr : sr (bN (cW a)) (bN (qD a)) b.data.toList 1 0 [] 0 = some ([x], p)) :
    Calls Tryz.prog 50 #[.string a, .string b, .int .i64 1] w fun e w' => e = .returned (.tuple #[.agg #[.bool true, .int .i64 (x : Nat), .int .i64 (p : Nat)], .int .i64 0]) ∧ Below w.heap.size w w' := by
  have HC := fun V hV => hid (g_check V a b ha hb hV)
  have HS := fun V hV => hid (g_series V a b 1 (by omega) (by omega) ha (gE_ok he).2 (gPE_ok (gE_ok he).1).1 (gPE_ok (gE_ok he).1).2 hV)
  rw [he] at HC
  rw [hr] at HS
  simp only [SerOut] at HS
  have HL := hid hL
  have b0 := hid ((Below.refl w.heap.size w).alloc (Nat.le_refl _) (.cells #[.bool false, .int .i64 0, .int .i64 0] 53))
  have x0 := hid (Blk.new w #[.bool false, .int .i64 0, .int .i64 0] 53)
  clear ha hb he hL hr
  go_enter Tryz.func50, Tryz.ntmps50
  go_wp2_with fail
  refine (HC _ (HL.out.call b0.out)).out.mono ?_; rintro e w1 ⟨rfl, hb1⟩
  have b1 := hid (bnext b0.out hb1); have x1 := hid (x0.out.call hb1)
  clear hb1
  go_wp2_with fail
  refine (HS _ (HL.out.call b1.out)).out.mono ?_; rintro e w2 ⟨⟨v, rfl, hv⟩, hb2⟩
  have b2 := hid (bnext b1.out hb2); have x2 := hid (x1.out.call hb2)
  obtain ⟨a3, c3, rfl, h3, h4, h5⟩ := hv.openI
  obtain ⟨g, o, rfl, -, hc⟩ := h5 0 x rfl
  rw [Nat.add_zero] at hc
  have r0 : w2.cell? ⟨w.heap.size, 0, none⟩ = some (.bool false) := x2.out.cell 0
  have r1 : w2.cell? ⟨w.heap.size, 1, none⟩ = some (.int .i64 0) := x2.out.cell 1
  have r2 : w2.cell? ⟨w.heap.size, 2, none⟩ = some (.int .i64 0) := x2.out.cell 2
  have f0 := x2.out.free 0
  have f1 := x2.out.free 1
  have f2 := x2.out.free 2
  clear hb2 hv h5
  simp only [List.length_singleton] at h3 ⊢
  go_wp2_with fail
  all_goals
    go_loop [12, 41] (fun v i => v = .int .i64 (x : Nat) ∧ i = .int .i64 0) (fun _ _ => 0)
    case atStart => exact ⟨rfl, rfl⟩
    case round =>
      obtain ⟨rfl, rfl⟩ := hrel
      go_wp2_with fail
      have s3 := ((x2.out.set 0 (.bool true)).set 1 (.int .i64 (x : Nat))).set 2 (.int .i64 (p : Nat))
      have k0 := s3.cell 0
      have k1 := s3.cell 1
      have k2 := s3.cell 2
      simp at k0 k1 k2
      refine bodyPost_ret (v := .tuple #[.agg #[.bool true, .int .i64 (x : Nat), .int .i64 (p : Nat)], .int .i64 0]) (by simp [results, Tryz.results50, go_sem, k0, k1, k2]) rfl ⟨rfl, ?_⟩
      exact ((b2.out.setCell (Nat.le_refl _) _).setCell (Nat.le_refl _) _).setCell (Nat.le_refl _) _
set_option maxRecDepth 100000 in
set_option maxHeartbeats 1000000 in
theorem g_draw_two (w : World) (a b : ByteArray) (x y p : Nat) (hx : x ≤ 100000) (hy : y ≤ 100000) (hp : p ≤ 100000) (ha : a.size ≤ 100000) (hb : b.size ≤ 100000) (he : gE a b = 0) (hL : Lay w)
    (hr : sr (bN (cW a)) (bN (qD a)) b.data.toList 2 0 [] 0 = some ([x, y], p)) :
    Calls Tryz.prog 50 #[.string a, .string b, .int .i64 2] w fun e w' => e = .returned (.tuple #[.agg #[.bool true, .int .i64 ((x : Int) - (y : Int)), .int .i64 (p : Nat)], .int .i64 0]) ∧ Below w.heap.size w w' := by
  have HC := fun V hV => hid (g_check V a b ha hb hV)
  have HS := fun V hV => hid (g_series V a b 2 (by omega) (by omega) ha (gE_ok he).2 (gPE_ok (gE_ok he).1).1 (gPE_ok (gE_ok he).1).2 hV)
  rw [he] at HC
  rw [hr] at HS
  simp only [SerOut] at HS
  have HL := hid hL
  have b0 := hid ((Below.refl w.heap.size w).alloc (Nat.le_refl _) (.cells #[.bool false, .int .i64 0, .int .i64 0] 53))
  have x0 := hid (Blk.new w #[.bool false, .int .i64 0, .int .i64 0] 53)
  clear ha hb he hL hr
  go_enter Tryz.func50, Tryz.ntmps50
  go_wp2_with fail
  refine (HC _ (HL.out.call b0.out)).out.mono ?_; rintro e w1 ⟨rfl, hb1⟩
  have b1 := hid (bnext b0.out hb1); have x1 := hid (x0.out.call hb1)
  clear hb1
  go_wp2_with fail
  refine (HS _ (HL.out.call b1.out)).out.mono ?_; rintro e w2 ⟨⟨v, rfl, hv⟩, hb2⟩
  have b2 := hid (bnext b1.out hb2); have x2 := hid (x1.out.call hb2)
  obtain ⟨a3, c3, rfl, h3, h4, h5⟩ := hv.openI
  obtain ⟨g, o, rfl, -, hc⟩ := h5 0 x rfl
  obtain ⟨g', o', hgo, -, hd⟩ := h5 1 y rfl
  simp at hgo
  obtain ⟨rfl, rfl⟩ := hgo
  rw [Nat.add_zero] at hc
  have r0 : w2.cell? ⟨w.heap.size, 0, none⟩ = some (.bool false) := x2.out.cell 0
  have r1 : w2.cell? ⟨w.heap.size, 1, none⟩ = some (.int .i64 0) := x2.out.cell 1
  have r2 : w2.cell? ⟨w.heap.size, 2, none⟩ = some (.int .i64 0) := x2.out.cell 2
  have f0 := x2.out.free 0
  have f1 := x2.out.free 1
  have f2 := x2.out.free 2
  clear hb2 hv h5
  simp only [List.length_cons, List.length_nil, Nat.zero_add, Nat.reduceAdd] at h3 ⊢
  have w1 : IntKind.i64.wrap ((x : Int) - (y : Int)) = (x : Int) - (y : Int) := by rw [IntWalk.i64_in _ ⟨by omega, by omega⟩]
  go_wp2_with fail
  all_goals
    go_loop [12, 41] (fun v i => (v = .int .i64 (x : Nat) ∧ i = .int .i64 0) ∨ (v = .int .i64 ((x : Int) - (y : Int)) ∧ i = .int .i64 1)) (fun _ i => 1 - (intOf i).toNat)
    case atStart => exact .inl ⟨rfl, rfl⟩
    case round =>
      rcases hrel with ⟨rfl, rfl⟩ | ⟨rfl, rfl⟩
      · go_wp2_with fail
        go_round
        case rel => exact .inr ⟨rfl, rfl⟩
        case measure => simp [intOf]
      · go_wp2_with fail
        have s3 := ((x2.out.set 0 (.bool true)).set 1 (.int .i64 ((x : Int) - (y : Int)))).set 2 (.int .i64 (p : Nat))
        have k0 := s3.cell 0
        have k1 := s3.cell 1
        have k2 := s3.cell 2
        simp at k0 k1 k2
        refine bodyPost_ret (v := .tuple #[.agg #[.bool true, .int .i64 ((x : Int) - (y : Int)), .int .i64 (p : Nat)], .int .i64 0]) (by simp [results, Tryz.results50, go_sem, k0, k1, k2]) rfl ⟨rfl, ?_⟩
        exact ((b2.out.setCell (Nat.le_refl _) _).setCell (Nat.le_refl _) _).setCell (Nat.le_refl _) _
end Go.Proofs.YtgphopkifomffaaGreatDoor
namespace Go.Proofs.YtgphopkifomffaaGreatDoor
open Go.RowKit Go.Shelf
open Go.Lib (decDigits nDigits)
set_option linter.unusedVariables false
set_option linter.unusedSimpArgs false
def d3 (t : Bool × Int × Int) : Value := .agg #[.bool t.1, .int .i64 t.2.1, .int .i64 t.2.2]
def oneT (N D : Nat) (l : List UInt8) : Bool × Int × Int := match s1 N D l 0 0 with
  | none => (false, 0, (l.length : Nat))
  | some (x, p) => (true, (x : Nat), (p : Nat))
def twoT (N D : Nat) (l : List UInt8) : Bool × Int × Int := match s1 N D l 0 0 with
  | none => (false, 0, (l.length : Nat))
  | some (x, p) => match s1 N D l p 0 with
    | none => (false, 0, (l.length : Nat))
    | some (y, q) => (true, (x : Int) - (y : Int), (q : Nat))
def oT (a b : ByteArray) : Bool × Int × Int := if gE a b = 0 then oneT (bN (cW a)) (bN (qD a)) b.data.toList else (false, 0, 0)
def wT (a b : ByteArray) : Bool × Int × Int := if gE a b = 0 then twoT (bN (cW a)) (bN (qD a)) b.data.toList else (false, 0, 0)
theorem chk_size {b : ByteArray} (h : chkE b = 0) : b.size ≤ 256 := by
  have h5 := (bit_drop h 0).2.1
  have h6 := list_size (b.extract 0 b.size)
  have h7 := (bit_drop h 0).2.2
  rw [h5, List.drop_zero, list_size] at h6
  omega
theorem g_draw1 (w : World) (a b : ByteArray) (ha : a.size ≤ 100000) (hb : b.size ≤ 100000) (hL : Lay w) :
    Calls Tryz.prog 50 #[.string a, .string b, .int .i64 1] w fun e w' => e = .returned (.tuple #[d3 (oT a b), .int .i64 (gE a b)]) ∧ Below w.heap.size w w' := by
  by_cases he : gE a b = 0
  · have hs := chk_size (gE_ok he).2
    have hND := (gPE_ok (gE_ok he).1).2
    have hl : b.data.toList.length = b.size := list_size b
    have h1 := sr_one_eq hND (l := b.data.toList) b.data.toList.length 0 [] 0 (Nat.zero_le _) (by omega)
    rw [oT, if_pos he, oneT, he]
    cases hS : s1 (bN (cW a)) (bN (qD a)) b.data.toList 0 0 with
    | none =>
      rw [hS] at h1
      refine (g_draw_none w a b 1 (by omega) (by omega) ha hb he hL h1).mono fun e w' h => ?_
      rw [h.1]
      exact ⟨by rw [hl]; rfl, h.2⟩
    | some y =>
      obtain ⟨x, p⟩ := y
      rw [hS] at h1
      have h2 := s1_le hND b.data.toList.length 0 0 x p (Nat.zero_le _) (by omega) hS
      exact g_draw_one w a b x p (by omega) (by omega) ha hb he hL h1
  · rw [oT, if_neg he]
    exact g_draw_bad w a b 1 ha hb he hL
theorem g_draw2 (w : World) (a b : ByteArray) (ha : a.size ≤ 100000) (hb : b.size ≤ 100000) (hL : Lay w) :
    Calls Tryz.prog 50 #[.string a, .string b, .int .i64 2] w fun e w' => e = .returned (.tuple #[d3 (wT a b), .int .i64 (gE a b)]) ∧ Below w.heap.size w w' := by
  by_cases he : gE a b = 0
  · have hs := chk_size (gE_ok he).2
    have hND := (gPE_ok (gE_ok he).1).2
    have hl : b.data.toList.length = b.size := list_size b
    have h1 := sr_two hND (l := b.data.toList) b.data.toList.length 0 [] 0 (Nat.zero_le _) (by omega)
    rw [wT, if_pos he, twoT, he]
    cases hS : s1 (bN (cW a)) (bN (qD a)) b.data.toList 0 0 with
    | none =>
      rw [hS] at h1
      refine (g_draw_none w a b 2 (by omega) (by omega) ha hb he hL h1).mono fun e w' h => ?_
      rw [h.1]
      exact ⟨by rw [hl]; rfl, h.2⟩
    | some y =>
      obtain ⟨x, p⟩ := y
      rw [hS] at h1
      have h2 := s1_le hND b.data.toList.length 0 0 x p (Nat.zero_le _) (by omega) hS
      have h3 := sr_one_eq hND (l := b.data.toList) b.data.toList.length p ([] ++ [x]) 0 h2.2.1 (by omega)
      dsimp only at h1 ⊢
      rw [h3] at h1
      cases hT : s1 (bN (cW a)) (bN (qD a)) b.data.toList p 0 with
      | none =>
        rw [hT] at h1
        refine (g_draw_none w a b 2 (by omega) (by omega) ha hb he hL h1).mono fun e w' h => ?_
        rw [h.1]
        exact ⟨by rw [hl]; rfl, h.2⟩
      | some z =>
        obtain ⟨y, q⟩ := z
        rw [hT] at h1
        have h4 := s1_le hND b.data.toList.length p 0 y q h2.2.1 (by omega) hT
        exact g_draw_two w a b x y q (by omega) (by omega) (by omega) ha hb he hL h1
  · rw [wT, if_neg he]
    exact g_draw_bad w a b 2 ha hb he hL
set_option maxRecDepth 100000 in
set_option maxHeartbeats 1000000 in
theorem g_One (w : World) (a b : ByteArray) (ha : a.size ≤ 100000) (hb : b.size ≤ 100000) (hL : Lay w) :
    Calls Tryz.prog 69 #[.string a, .string b] w fun e w' => e = .returned (.tuple #[d3 (oT a b), .int .i64 (gE a b)]) ∧ Below w.heap.size w w' := by
  have HC := fun V hV => hid (g_draw1 V a b ha hb hV)
  obtain ⟨t, ht⟩ : ∃ t, oT a b = t := ⟨_, rfl⟩
  obtain ⟨x, hx⟩ : ∃ x, gE a b = x := ⟨_, rfl⟩
  rw [ht, hx] at HC
  rw [ht, hx]
  obtain ⟨d, v, u⟩ := t
  simp only [d3] at HC
  have HL := hid hL
  have b0 := hid ((Below.refl w.heap.size w).alloc (Nat.le_refl _) (.cells #[.bool false, .int .i64 0, .int .i64 0] 53))
  have x0 := hid (Blk.new w #[.bool false, .int .i64 0, .int .i64 0] 53)
  clear ha hb hL hx ht
  go_enter Tryz.func69, Tryz.ntmps69
  go_wp2_with fail
  refine (HC _ (HL.out.call b0.out)).out.mono ?_; rintro e w2 ⟨rfl, hb2⟩
  have b2 := hid (bnext b0.out hb2); have x2 := hid (x0.out.call hb2)
  have r0 : w2.cell? ⟨w.heap.size, 0, none⟩ = some (.bool false) := x2.out.cell 0
  have r1 : w2.cell? ⟨w.heap.size, 1, none⟩ = some (.int .i64 0) := x2.out.cell 1
  have r2 : w2.cell? ⟨w.heap.size, 2, none⟩ = some (.int .i64 0) := x2.out.cell 2
  have f0 := x2.out.free 0
  have f1 := x2.out.free 1
  have f2 := x2.out.free 2
  clear hb2
  go_wp2_with fail
  have s3 := ((x2.out.set 0 (.bool d)).set 1 (.int .i64 v)).set 2 (.int .i64 u)
  have k0 := s3.cell 0
  have k1 := s3.cell 1
  have k2 := s3.cell 2
  simp at k0 k1 k2
  refine bodyPost_ret (v := .tuple #[.agg #[.bool d, .int .i64 v, .int .i64 u], .int .i64 x]) (by simp [results, Tryz.results69, go_sem, k0, k1, k2]) rfl ⟨rfl, ?_⟩
  exact ((b2.out.setCell (Nat.le_refl _) _).setCell (Nat.le_refl _) _).setCell (Nat.le_refl _) _
set_option maxRecDepth 100000 in
set_option maxHeartbeats 1000000 in
theorem g_Two (w : World) (a b : ByteArray) (ha : a.size ≤ 100000) (hb : b.size ≤ 100000) (hL : Lay w) :
    Calls Tryz.prog 20 #[.string a, .string b] w fun e w' => e = .returned (.tuple #[d3 (wT a b), .int .i64 (gE a b)]) ∧ Below w.heap.size w w' := by
  have HC := fun V hV => hid (g_draw2 V a b ha hb hV)
  obtain ⟨t, ht⟩ : ∃ t, wT a b = t := ⟨_, rfl⟩
  obtain ⟨x, hx⟩ : ∃ x, gE a b = x := ⟨_, rfl⟩
  rw [ht, hx] at HC
  rw [ht, hx]
  obtain ⟨d, v, u⟩ := t
  simp only [d3] at HC
  have HL := hid hL
  have b0 := hid ((Below.refl w.heap.size w).alloc (Nat.le_refl _) (.cells #[.bool false, .int .i64 0, .int .i64 0] 53))
  have x0 := hid (Blk.new w #[.bool false, .int .i64 0, .int .i64 0] 53)
  clear ha hb hL hx ht
  go_enter Tryz.func20, Tryz.ntmps20
  go_wp2_with fail
  refine (HC _ (HL.out.call b0.out)).out.mono ?_; rintro e w2 ⟨rfl, hb2⟩
  have b2 := hid (bnext b0.out hb2); have x2 := hid (x0.out.call hb2)
  have r0 : w2.cell? ⟨w.heap.size, 0, none⟩ = some (.bool false) := x2.out.cell 0
  have r1 : w2.cell? ⟨w.heap.size, 1, none⟩ = some (.int .i64 0) := x2.out.cell 1
  have r2 : w2.cell? ⟨w.heap.size, 2, none⟩ = some (.int .i64 0) := x2.out.cell 2
  have f0 := x2.out.free 0
  have f1 := x2.out.free 1
  have f2 := x2.out.free 2
  clear hb2
  go_wp2_with fail
  have s3 := ((x2.out.set 0 (.bool d)).set 1 (.int .i64 v)).set 2 (.int .i64 u)
  have k0 := s3.cell 0
  have k1 := s3.cell 1
  have k2 := s3.cell 2
  simp at k0 k1 k2
  refine bodyPost_ret (v := .tuple #[.agg #[.bool d, .int .i64 v, .int .i64 u], .int .i64 x]) (by simp [results, Tryz.results20, go_sem, k0, k1, k2]) rfl ⟨rfl, ?_⟩
  exact ((b2.out.setCell (Nat.le_refl _) _).setCell (Nat.le_refl _) _).setCell (Nat.le_refl _) _
end Go.Proofs.YtgphopkifomffaaGreatDoor
namespace Go.Proofs.YtgphopkifomffaaGreatDoor
open Go.RowKit Go.Shelf
open Go.Lib (decDigits nDigits)
set_option linter.unusedVariables false
set_option linter.unusedSimpArgs false
def hasM (L : List (ByteArray × ByteArray)) (x : ByteArray × ByteArray) : Bool := L.any (fun y => decide (y = x))
theorem hasM_iff {L : List (ByteArray × ByteArray)} {x : ByteArray × ByteArray} : hasM L x = true ↔ x ∈ L := by
  unfold hasM
  rw [List.any_eq_true]
  exact ⟨fun ⟨y, hy, e⟩ => by rw [decide_eq_true_eq] at e; exact e ▸ hy, fun h => ⟨x, h, by simp⟩⟩
set_option maxRecDepth 100000 in
set_option maxHeartbeats 2000000 in
theorem k_HasM (w : World) (v : Value) (L : List (ByteArray × ByteArray)) (x1 x2 : ByteArray) (hv : MRow w v L) :
    Calls Tryz.prog 12 #[v, .agg #[.string x1, .string x2]] w fun e w' => e = .returned (.bool (hasM L (x1, x2))) ∧ Below w.heap.size w w' := by
  obtain ⟨a, c, rfl, h1, h2, h3⟩ := hv.ex
  obtain ⟨n, hn⟩ : ∃ n, L.length = n := ⟨_, rfl⟩
  rw [hn] at h1 ⊢
  have H3 := hid h3; have HN := hid hn
  have X := hid (Blk.new w #[.string x1, .string x2] 40)
  have B := hid ((Below.refl w.heap.size w).alloc (Nat.le_refl _) (.cells #[.string x1, .string x2] 40))
  clear hv h3 hn
  go_enter Tryz.func12, Tryz.ntmps12
  go_wp2_with fail
  go_loopw [5] (fun ii wr => ∃ i : Nat, ii = .int .i64 (i : Nat) ∧ i ≤ n ∧ Hid (∀ j, j < i → L[j]? ≠ some (x1, x2)) ∧ Hid (Blk wr w.heap.size #[.string x1, .string x2] 40) ∧ Hid (Below w.heap.size w wr)) (fun ii wr => n - (intOf ii).toNat)
  case atStart => exact ⟨0, rfl, Nat.zero_le _, fun j hj => absurd hj (by omega), X, B⟩
  case round =>
    obtain ⟨i, rfl, hi, hI, hX, hB⟩ := hrel
    by_cases hlt : i < n
    · obtain ⟨y, hy⟩ : ∃ x, L[i]? = some x := ⟨_, List.getElem?_eq_getElem (by rw [HN.out]; exact hlt)⟩
      obtain ⟨g, o, rfl, hg, k1, k2⟩ := H3.out i y hy
      obtain ⟨y1, y2⟩ := y
      have HY := hid hy
      have m1 := (hB.out.cell (p := ⟨g, o + 2 * i, none⟩) hg).trans k1
      have m2 := (hB.out.cell (p := ⟨g, o + 2 * i + 1, none⟩) hg).trans k2
      have m3 := hX.out.cell 0
      have m4 := hX.out.cell 1
      simp at m3 m4
      dsimp only at m1 m2
      rw [Nat.mul_comm 2 i] at m1 m2
      have b1 : (0 : Int) ≤ (i : Int) := by omega
      have b2 : (i : Int) < (n : Int) := by omega
      have wi : IntKind.i64.wrap ((i : Int) + 1) = (i : Int) + 1 := by rw [IntWalk.i64_in _ ⟨by omega, by omega⟩]
      clear k1 k2 hy hg
      by_cases he : y1 = x1 ∧ y2 = x2
      · obtain ⟨rfl, rfl⟩ := he
        have hmem : (y1, y2) ∈ L := List.mem_of_getElem? HY.out
        have HM := hid hmem
        clear hmem
        go_wp2_with fail
        refine held_plain [0, 1, 2, 3, 4, 5] 0 (fun w' => w'.cell? ⟨g, o + i * 2, none⟩ = some (.string y1) ∧ w'.cell? ⟨g, o + i * 2 + 1, none⟩ = some (.string y2) ∧ w'.cell? ⟨w.heap.size, 0, none⟩ = some (.string y1) ∧ w'.cell? ⟨w.heap.size, 1, none⟩ = some (.string y2)) (by kernel_rfl) (by kernel_rfl) (by kernel_rfl) (by kernel_rfl) ⟨m1, m2, m3, m4⟩ ?_
        iterate 6
          refine ⟨_, rfl, ?_⟩
          apply Exists.intro
          refine ⟨.inl ⟨by rfl, ?_⟩, ?_⟩
          · (intro W' hW'; obtain ⟨q1, q2, q3, q4⟩ := hW'; go_simp; try (with_reducible rfl))
          (dsimp only [Act.put]; try simp only [List.setIfInBounds_toArray, List.set_cons_zero, List.set_cons_succ])
        refine wpAnyH_done (by kernel_rfl) ?_ _
        simp only [Only]
        go_wp2_with fail
        go_ret
        exact ⟨by rw [hasM_iff.2 HM.out]; rfl, hB.out.drew⟩
      · have hne : ¬ ((y1, y2) : ByteArray × ByteArray) = (x1, x2) := by simpa using he
        have HNE := hid hne
        have hb : (decide (y1 = x1) && decide (y2 = x2)) = false := by
          rw [Bool.and_eq_false_iff, decide_eq_false_iff_not, decide_eq_false_iff_not]
          by_cases h : y1 = x1
          · exact .inr fun h' => he ⟨h, h'⟩
          · exact .inl h
        have fin : Hid (∀ j, j < i + 1 → L[j]? ≠ some (x1, x2)) := fun j hj => by
          rcases Nat.lt_or_ge j i with h | h
          · exact hI.out j h
          · obtain rfl : j = i := by omega
            rw [HY.out]; exact fun e => HNE.out (Option.some.inj e)
        clear he hne hb
        by_cases h1 : y1 = x1
        · subst h1
          have n2 := ne_tl (show ¬ y2 = x2 from fun e => HNE.out (by rw [e]))
          go_wp2_with fail
          refine held_plain [0, 1, 2, 3, 4, 5] 0 (fun w' => w'.cell? ⟨g, o + i * 2, none⟩ = some (.string y1) ∧ w'.cell? ⟨g, o + i * 2 + 1, none⟩ = some (.string y2) ∧ w'.cell? ⟨w.heap.size, 0, none⟩ = some (.string y1) ∧ w'.cell? ⟨w.heap.size, 1, none⟩ = some (.string x2)) (by kernel_rfl) (by kernel_rfl) (by kernel_rfl) (by kernel_rfl) ⟨m1, m2, m3, m4⟩ ?_
          iterate 6
            refine ⟨_, rfl, ?_⟩
            apply Exists.intro
            refine ⟨.inl ⟨by rfl, ?_⟩, ?_⟩
            · (intro W' hW'; obtain ⟨q1, q2, q3, q4⟩ := hW'; go_simp; try (with_reducible rfl))
            (dsimp only [Act.put]; try simp only [List.setIfInBounds_toArray, List.set_cons_zero, List.set_cons_succ])
          refine wpAnyH_done (by kernel_rfl) ?_ _
          simp only [Only]
          go_wp2_with fail
          go_roundw
          case rel => exact ⟨i + 1, rfl, by omega, fin, hX.out.drew, hB.out.drew⟩
          case measure => simp [intOf] <;> omega
        · have n1 := ne_tl h1
          clear h1
          go_wp2_with fail
          refine held_plain [0, 1, 2, 3, 4, 5] 0 (fun w' => w'.cell? ⟨g, o + i * 2, none⟩ = some (.string y1) ∧ w'.cell? ⟨g, o + i * 2 + 1, none⟩ = some (.string y2) ∧ w'.cell? ⟨w.heap.size, 0, none⟩ = some (.string x1) ∧ w'.cell? ⟨w.heap.size, 1, none⟩ = some (.string x2)) (by kernel_rfl) (by kernel_rfl) (by kernel_rfl) (by kernel_rfl) ⟨m1, m2, m3, m4⟩ ?_
          iterate 6
            refine ⟨_, rfl, ?_⟩
            apply Exists.intro
            refine ⟨.inl ⟨by rfl, ?_⟩, ?_⟩
            · (intro W' hW'; obtain ⟨q1, q2, q3, q4⟩ := hW'; go_simp; try (with_reducible rfl))
            (dsimp only [Act.put]; try simp only [List.setIfInBounds_toArray, List.set_cons_zero, List.set_cons_succ])
          refine wpAnyH_done (by kernel_rfl) ?_ _
          simp only [Only]
          go_wp2_with fail
          go_roundw
          case rel => exact ⟨i + 1, rfl, by omega, fin, hX.out.drew, hB.out.drew⟩
          case measure => simp [intOf] <;> omega
    · obtain rfl : i = n := by omega
      have hE : hasM L (x1, x2) = false := by
        rw [Bool.eq_false_iff]
        intro hm
        rw [hasM_iff] at hm
        obtain ⟨j, hj⟩ := List.getElem?_of_mem hm
        exact hI.out j (by have := (List.getElem?_eq_some_iff.1 hj).1; rw [HN.out] at this; exact this) hj
      have HE := hid hE
      have q1 : decide ((i : Int) < (i : Int)) = false := by simp
      clear hlt hE
      go_wp2_with fail
      go_ret
      exact ⟨by rw [HE.out]; rfl, hB.out⟩
end Go.Proofs.YtgphopkifomffaaGreatDoor
namespace Go.Proofs.YtgphopkifomffaaGreatDoor
open Go.RowKit
open Go.Lib (decDigits nDigits)
set_option linter.unusedVariables false
theorem make_bytes (n : Nat) (hn : n ≤ 100000000) (W : World) : (Instr.makeSlice 156 (.int .i64 (n : Int)) (.int .i64 (n : Int))).run Tryz.prog W = .ok (.slice (some ⟨W.heap.size, 0, none⟩) n n) (W.alloc (.cells (madeCells #[.int .u8 0] n) 5)) :=
  run_make_row' (P := Tryz.prog) 156 5 (.int .u8 0) 1 Tryz.underlying156 (by kernel_rfl) rfl .i64 .i64 n (by omega) (by omega) W
theorem r1_Write_zero (w : World) (v : Value) (h : IsN .i64 w v 0) : Calls Tryz.prog 76 #[v] w fun e w' => e = .returned (numV 0) ∧ Below w.heap.size w w' := by
  obtain ⟨a, c, rfl, _⟩ := h.openI
  have hl : (limbs 0).length = 0 := by rw [limbs_zero]; rfl
  rw [hl]
  have e : numV 0 = .string ⟨#[48]⟩ := by rw [numV, dec_zero]
  have E := hid e
  clear h hl e
  go_enter Tryz.func76, Tryz.ntmps76
  go_wp2_with fail
  go_ret
  exact ⟨by rw [E.out]; rfl, Below.refl _ _⟩
set_option maxRecDepth 100000 in
set_option maxHeartbeats 1000000 in
theorem r1_Write_pos (w : World) (v : Value) (n : Nat) (h : IsN .i64 w v n) (h0 : 0 < n) (hl : (limbs n).length ≤ 1000000) : Calls Tryz.prog 76 #[v] w fun e w' => e = .returned (numV n) ∧ Below w.heap.size w w' := by
  obtain ⟨a, c, rfl, h1, h2, h3⟩ := h.openI
  have H3 := hid h3; clear h3 h
  obtain ⟨L, hL⟩ : ∃ L, (limbs n).length = L := ⟨_, rfl⟩
  have hLp : 0 < L := by rw [← hL]; exact List.length_pos_iff.2 (fun e => by have := limbs_nil.1 e; omega)
  rw [hL] at h1 hl ⊢
  have HL := hid hL; clear hL
  have q0 : ((L : Int) == 0) = false := by simp; omega
  have hmk : ∀ W : World, (Instr.makeSlice 156 (.int .i64 (9 * (L : Int))) (.int .i64 (9 * (L : Int)))).run Tryz.prog W = .ok (.slice (some ⟨W.heap.size, 0, none⟩) (9 * L) (9 * L)) (W.alloc (.cells (madeCells #[.int .u8 0] (9 * L)) 5)) := fun W => by
    have := make_bytes (9 * L) (by omega) W
    rwa [Int.natCast_mul] at this
  go_enter Tryz.func76, Tryz.ntmps76
  go_wp2_with fail
  clear hmk q0
  go_loopw [4, 5, 6] (fun ii nn kk wr => ∃ (i : Nat) (bs : List UInt8), ii = .int .i64 i ∧ i ≤ L ∧ Hid (WrI n i bs) ∧ Hid (BArr 5 wr w.heap.size bs) ∧ Hid (Below w.heap.size w wr)) (fun ii _ _ _ => L - (intOf ii).toNat)
  case atStart => exact ⟨0, _, rfl, Nat.zero_le _, WrI.start n, by rw [HL.out]; exact BArr.made w 5 (9 * L), (Below.refl _ _).alloc (Nat.le_refl _) _⟩
  case round =>
    obtain ⟨i, bs, rfl, hi, hW, hO, hB⟩ := hrel
    by_cases hlt : i < L
    · obtain ⟨x, hx⟩ : ∃ x, (limbs n)[L - 1 - i]? = some x := ⟨_, List.getElem?_eq_getElem (by rw [HL.out]; omega)⟩
      obtain ⟨g, o, rfl, hg, hc⟩ := H3.out _ x hx
      have d1 := (hB.out.cell (p := ⟨g, o + (L - 1 - i), none⟩) hg).trans hc
      have hxl := (sm_limbs n).get hx
      have HX := hid hx; clear hx hc
      go_wp2_with fail
      go_loopw [5, 6] (fun nn kk wq => ∃ (k y : Nat) (t : Int) (bs : List UInt8), nn = .int .i64 y ∧ kk = .int .i64 t ∧ t = (k : Int) - 1 ∧ k ≤ 9 ∧ y < 1000000000 ∧ Hid (WrJ n i x k y bs) ∧ Hid (BArr 5 wq w.heap.size bs) ∧ Hid (Below w.heap.size w wq)) (fun _ kk _ => (intOf kk + 1).toNat)
      case atStart => exact ⟨9, x, _, bs, rfl, rfl, by omega, by omega, hxl, hW.out.enter, hO, hB⟩
      case round =>
        obtain ⟨k, y, t, bs2, rfl, rfl, ht, hk, hy, hJ, hO2, hB2⟩ := hrel
        have hbl := hid (show bs2.length = 9 * L from by rw [hJ.out.len, HL.out])
        cases k with
        | zero =>
          obtain rfl : t = -1 := by omega
          clear ht
          have HN := hid (hJ.out.leave (by rw [HL.out]; exact HX.out) (by rw [HL.out]; exact hlt))
          go_wp2_with fail
          go_roundw
          case rel => exact ⟨i + 1, bs2, by go_num, by omega, HN, hO2, hB2⟩
          case measure => simp [intOf] <;> omega
        | succ k =>
          obtain rfl : t = (k : Int) := by omega
          clear ht
          have HN := hid (hJ.out.next (by omega) (by rw [HL.out]; exact hlt))
          obtain ⟨z, hz⟩ : ∃ z, bs2[9 * i + k]? = some z := ⟨_, List.getElem?_eq_getElem (by rw [hbl.out]; omega)⟩
          have d3 := hO2.out.cell hz
          have d4 := hO2.out.free (9 * i + k)
          clear hz
          go_wp2_with fail
          go_roundw
          case rel =>
            refine ⟨k, y / 10, _, bs2.set (9 * i + k) (UInt8.ofNat (48 + y % 10)), by go_num, rfl, by omega, by omega, by omega, HN, ?_, below_set hB2.out (Nat.le_refl _) _⟩
            have hz : (48 + (y : Int) % 10) = ((UInt8.ofNat (48 + y % 10)).toNat : Int) := by rw [digit_ofNat (by omega)]; omega
            rw [hz]
            exact hO2.out.set _ _
          case measure => simp [intOf] <;> omega
    · obtain rfl : i = L := by omega
      obtain ⟨hdig, hval⟩ := WrI.done (by have := hW.out; rw [← HL.out] at this; exact this)
      have HD := hid hdig; have HV := hid hval
      have hbl := hid (show bs.length = 9 * i from by rw [hW.out.len, HL.out])
      clear hdig hval
      go_wp2_with fail
      go_loop [3] (fun b => ∃ r : Nat, r + 1 ≤ 9 * i ∧ b = .slice (some ⟨w.heap.size, r, none⟩) (9 * i - r) (9 * i - r) ∧ Hid (dv (bs.drop r) = n)) (fun b => match b with | .slice _ m _ => m | _ => 0)
      case atStart => exact ⟨0, by omega, rfl, by rw [Hid, List.drop_zero]; exact HV.out⟩
      case round =>
        obtain ⟨r, hr, rfl, hv⟩ := hrel
        obtain ⟨z, hz⟩ : ∃ z, bs[r]? = some z := ⟨_, List.getElem?_eq_getElem (by rw [hbl.out]; omega)⟩
        have d3 := hO.out.cell hz
        obtain ⟨m, hm⟩ : ∃ m, m = 9 * i - r := ⟨_, rfl⟩
        rw [← hm]
        have hm1 : 1 ≤ m := by omega
        have hm9 : m ≤ 9000000 := by omega
        have HM := hid hm
        by_cases hgo : 1 < m ∧ z = 48
        · obtain ⟨g1, rfl⟩ := hgo
          have q1 : decide ((1 : Int) < (m : Int)) = true := by simp; omega
          have HN := hid (dv_zero_head hz)
          clear hz hm
          go_wp2_with fail
          go_round
          case rel => exact ⟨r + 1, by have := HM.out; omega, by rw [show 9 * i - (r + 1) = m - 1 by have := HM.out; omega], by rw [Hid, HN.out]; exact hv.out⟩
          case measure => simp; omega
        · have hfin := hid (strip_done HD.out hv.out (by rw [hbl.out]; omega) (by
            rw [hbl.out]
            by_cases h1 : 1 < m
            · right
              rw [hz]
              intro e
              injection e with e
              exact hgo ⟨h1, e⟩
            · left; omega))
          have hcv : (convert 156 9 (.slice (some ⟨w.heap.size, r, none⟩) m m)).run Tryz.prog wr = .ok (numV n) wr := by
            have hlen : (bs.drop r).length = m := by rw [List.length_drop, hbl.out, hm]
            have := Go.run_convert_bytes_back (P := Tryz.prog) wr 156 9 5 ⟨w.heap.size, r, none⟩ m (bs.drop r) Tryz.underlying156 Tryz.underlying5 Tryz.underlying9 (fun j hj => by
              rw [Addr.add_lit]
              refine hO.out.cell ?_
              have h2 : r + j < bs.length := by rw [hlen] at hj; rw [hbl.out]; omega
              rw [List.getElem?_eq_getElem h2, List.getElem_drop])
            rw [hlen, hfin.out] at this
            exact this
          by_cases h1 : 1 < m
          · have q1 : decide ((1 : Int) < (m : Int)) = true := by simp; omega
            have q2 : ((z.toNat : Int) == 48) = false := by
              rw [beq_eq_false_iff_ne]
              intro e
              refine hgo ⟨h1, ?_⟩
              have : z.toNat = (48 : UInt8).toNat := by simp; omega
              exact UInt8.toNat_inj.1 this
            clear hz hm hgo h1
            go_wp2_with fail
            go_ret
            exact ⟨rfl, hB.out⟩
          · obtain rfl : m = 1 := by omega
            clear hz hm hgo h1
            go_wp2_with fail
            go_ret
            exact ⟨rfl, hB.out⟩
end Go.Proofs.YtgphopkifomffaaGreatDoor
namespace Go.Proofs.YtgphopkifomffaaGreatDoor
open Go.RowKit
open Go.Lib (decDigits nDigits)
set_option linter.unusedVariables false
set_option maxRecDepth 100000 in
set_option maxHeartbeats 1000000 in
theorem r1_Check (w : World) (s : ByteArray) (hs : s.size ≤ 9223372036854775807) : Calls Tryz.prog 125 #[.string s] w fun e w' => e = .returned (.int .i64 (errN s.data.toList)) ∧ w = w' := by
  have hsl := hid (show s.data.toList.length = s.size from by simp)
  by_cases h0 : s.size = 0
  · have hnil : s.data.toList = [] := List.eq_nil_of_length_eq_zero (by rw [hsl.out, h0])
    obtain rfl : s = ⟨#[]⟩ := by
      cases s with
      | mk d => simp at hnil; rw [hnil]
    clear hsl h0 hnil hs
    go_enter Tryz.func125, Tryz.ntmps125
    go_wp2_with fail
    go_ret
    exact ⟨ret_int (by rw [errN_bad]; exact fun h => h.1 rfl), rfl⟩
  · have hpos : 0 < s.size := by omega
    have hne : s.data.toList.isEmpty = false := by
      rw [List.isEmpty_eq_false_iff]
      intro e
      have := hsl.out; rw [e] at this; simp at this; omega
    have hn : ¬ s.toList = [] := by rw [Go.ByteArray.toList_eq]; intro e; rw [e] at hne; cases hne
    have hn2 : s.toList.isEmpty = false := by rw [Go.ByteArray.toList_eq]; exact hne
    have hb0 := hid (byte_get hpos)
    clear hne
    by_cases hz : s[0] = 48 ∧ 1 < s.size
    · have q1 : ((s[0].toNat : Int) == 48) = true := by rw [hz.1]; rfl
      have q2 : decide ((1 : Int) < (s.size : Int)) = true := by simp; omega
      have hbad := hid (show ¬ isForm s.data.toList from fun h => by
        rcases h.2.1 with h1 | h1
        · have := congrArg List.length h1
          rw [hsl.out] at this; simp at this; omega
        · rw [List.head?_eq_getElem?, hb0.out, hz.1] at h1
          exact h1 rfl)
      clear hz
      go_enter Tryz.func125, Tryz.ntmps125
      go_wp2_with fail
      go_ret
      exact ⟨ret_int (by rw [errN_bad hbad.out]), rfl⟩
    · have hform : allDig s.data.toList → isForm s.data.toList := fun hd => by
        refine ⟨fun e => by have := hsl.out; rw [e] at this; simp at this; omega, ?_, hd⟩
        by_cases h48 : s[0] = 48
        · left
          have h1 : s.data.toList.length = 1 := by
            have : ¬ 1 < s.size := fun h => hz ⟨h48, h⟩
            rw [hsl.out]; omega
          match hm : s.data.toList, h1 with
          | [c], _ =>
            have := hb0.out
            rw [hm] at this
            simp at this
            rw [this, h48]
        · right
          rw [List.head?_eq_getElem?, hb0.out]
          simpa using h48
      have HF := hid hform
      have hI : (((s[0].toNat : Int) == 48) = false ∧ decide ((1 : Int) < (s.size : Int)) = decide ((1 : Int) < (s.size : Int))) ∨ (((s[0].toNat : Int) == 48) = true ∧ decide ((1 : Int) < (s.size : Int)) = false) := by
        by_cases h48 : s[0] = 48
        · right
          have : ¬ 1 < s.size := fun h => hz ⟨h48, h⟩
          refine ⟨by rw [h48]; rfl, by simp; omega⟩
        · left
          refine ⟨?_, rfl⟩
          rw [beq_eq_false_iff_ne]
          intro e
          refine h48 ?_
          have : s[0].toNat = (48 : UInt8).toNat := by simp; omega
          exact UInt8.toNat_inj.1 this
      clear hform hz
      rcases hI with ⟨q1, -⟩ | ⟨q1, q2⟩
      all_goals
        go_enter Tryz.func125, Tryz.ntmps125
        go_wp2_with fail
        clear q1
        go_loop [3] (fun ii => ∃ i : Nat, ii = .int .i64 i ∧ i ≤ s.size ∧ Hid (∀ (j : Nat) (b : UInt8), j < i → s.data.toList[j]? = some b → isDig b = true)) (fun ii => s.size - (intOf ii).toNat)
        case atStart => exact ⟨0, rfl, Nat.zero_le _, fun j b hj => absurd hj (by omega)⟩
        case round =>
          obtain ⟨i, rfl, hi, hI⟩ := hrel
          by_cases hlt : i < s.size
          · have hb := hid (byte_get hlt)
            have hbad : ¬ isDig s[i] = true → ¬ isForm s.data.toList := fun h hf => h (hf.2.2 _ (List.mem_of_getElem? hb.out))
            by_cases c1 : s[i].toNat < 48
            · have q1 : decide ((s[i].toNat : Int) < 48) = true := by simp; omega
              have hB := hid (hbad (fun e => by have := isDig_iff.1 e; omega))
              clear hbad c1
              go_wp2_with fail
              go_ret
              exact ⟨ret_int (by rw [errN_bad hB.out]), rfl⟩
            · by_cases c2 : 57 < s[i].toNat
              · have q1 : decide ((s[i].toNat : Int) < 48) = false := by simp; omega
                have q2 : decide ((57 : Int) < (s[i].toNat : Int)) = true := by simp; omega
                have hB := hid (hbad (fun e => by have := isDig_iff.1 e; omega))
                clear hbad c1 c2
                go_wp2_with fail
                go_ret
                exact ⟨ret_int (by rw [errN_bad hB.out]), rfl⟩
              · have q1 : decide ((s[i].toNat : Int) < 48) = false := by simp; omega
                have q2 : decide ((57 : Int) < (s[i].toNat : Int)) = false := by simp; omega
                have hD := hid (isDig_iff.2 (show 48 ≤ s[i].toNat ∧ s[i].toNat ≤ 57 by omega))
                clear hbad c1 c2
                go_wp2_with fail
                go_round
                case rel => exact ⟨i + 1, by go_num, by omega, fun j b hj hjb => by
                  by_cases e : j = i
                  · subst e; have := hb.out; rw [hjb] at this; cases this; exact hD.out
                  · exact hI.out j b (by omega) hjb⟩
                case measure => simp [intOf] <;> omega
          · obtain rfl : i = s.size := by omega
            have hF := hid (HF.out fun b hb => by
              obtain ⟨j, hj⟩ := List.getElem?_of_mem hb
              exact hI.out j b (by have := (List.getElem?_eq_some_iff.1 hj).1; rw [hsl.out] at this; exact this) hj)
            by_cases hlong : 4000 < s.size
            · have q3 : decide ((4000 : Int) < (s.size : Int)) = true := by simp; omega
              have HL := hid hlong; clear hlong
              go_wp2_with fail
              go_ret
              exact ⟨ret_int (by rw [errN_long hF.out (by rw [hsl.out]; exact HL.out)]), rfl⟩
            · have q3 : decide ((4000 : Int) < (s.size : Int)) = false := by simp; omega
              have HL := hid hlong; clear hlong
              go_wp2_with fail
              go_ret
              exact ⟨ret_int (by rw [errN_ok hF.out (by rw [hsl.out]; exact HL.out)]), rfl⟩
end Go.Proofs.YtgphopkifomffaaGreatDoor
namespace Go.Proofs.YtgphopkifomffaaGreatDoor
open Go.RowKit
set_option linter.unusedVariables false
theorem r2_digits (w : World) (s : ByteArray) (hs : s.size ≤ 9223372036854775807) : Calls Tryz.prog 131 #[.string s] w fun e w' =>
    e = .returned (.bool (formB s.data.toList)) ∧ w = w' := by
  by_cases hf : formB s.data.toList = true
  · by_cases hl : 4000 < s.data.toList.length
    · have H5 := hid (show errN s.data.toList = 5 from by rw [errN, if_pos hf, if_pos hl])
      have HF := hid hf
      rw [hf]
      clear hf hl
      go_enter Tryz.func131, Tryz.ntmps131
      go_wp2_with fail
      refine (r1_Check _ s hs).mono ?_; rintro e w1 ⟨rfl, rfl⟩
      rw [H5.out]
      go_wp2_with fail
      go_ret
      exact ⟨rfl, rfl⟩
    · have H5 := hid (show errN s.data.toList = 0 from by rw [errN, if_pos hf, if_neg hl])
      have HF := hid hf
      rw [hf]
      clear hf hl
      go_enter Tryz.func131, Tryz.ntmps131
      go_wp2_with fail
      refine (r1_Check _ s hs).mono ?_; rintro e w1 ⟨rfl, rfl⟩
      rw [H5.out]
      go_wp2_with fail
      go_ret
      exact ⟨rfl, rfl⟩
  · have H5 := hid (show errN s.data.toList = 3 from by rw [errN, if_neg hf])
    have hf' : formB s.data.toList = false := by simpa using hf
    rw [hf']
    clear hf hf'
    go_enter Tryz.func131, Tryz.ntmps131
    go_wp2_with fail
    refine (r1_Check _ s hs).mono ?_; rintro e w1 ⟨rfl, rfl⟩
    rw [H5.out]
    go_wp2_with fail
    go_ret
    exact ⟨rfl, rfl⟩
end Go.Proofs.YtgphopkifomffaaGreatDoor
namespace Go.Proofs.YtgphopkifomffaaGreatDoor
open Go.RowKit
set_option linter.unusedVariables false
theorem r2_integer_minus (w : World) (s : ByteArray) (hs : s.size ≤ 9223372036854775807) (h0 : 0 < s.size) (h1 : s[0] = 45) : Calls Tryz.prog 124 #[.string s] w fun e w' =>
    e = .returned (.tuple #[.bool true, .string (s.extract 1 s.size), .bool (formB (s.extract 1 s.size).data.toList && !decide ((s.extract 1 s.size).data.toList = [48]))]) ∧ w = w' := by
  have q0 : decide ((0 : Int) < (s.size : Int)) = true := by simp; omega
  have q1 : ((s[0].toNat : Int) == 45) = true := by rw [h1]; rfl
  have H0 := hid h1
  clear h1
  have hts : (s.extract 1 s.size).size ≤ 9223372036854775807 := by simp; omega
  obtain ⟨t, ht⟩ : ∃ t, s.extract 1 s.size = t := ⟨_, rfl⟩
  rw [ht] at hts ⊢
  have HT := hid ht
  obtain ⟨f, hf⟩ : ∃ f, formB t.data.toList = f := ⟨_, rfl⟩
  rw [hf]
  have HF := hid hf
  clear ht hf
  go_enter Tryz.func124, Tryz.ntmps124
  go_wp2_with fail
  rw [HT.out]
  refine (r2_digits _ t hts).mono ?_; rintro e w1 ⟨rfl, rfl⟩
  rw [HF.out]
  cases f
  · go_wp2_with fail
    exact bodyPost_ret (v := .tuple #[.bool true, .string t, .bool false]) (by simp [results, Tryz.results124, go_sem]) rfl ⟨by simp, rfl⟩
  · go_wp2_with fail
    refine bodyPost_ret (v := .tuple #[.bool true, .string t, .bool (!(t.toList == [48]))]) (by simp [results, Tryz.results124, go_sem]) rfl ⟨?_, rfl⟩
    rw [Go.ByteArray.toList_eq]
    simp
    exact Bool.eq_iff_iff.2 (by simp)
theorem r2_integer_plain (w : World) (s : ByteArray) (hs : s.size ≤ 9223372036854775807) (h1 : ∀ h : 0 < s.size, s[0] ≠ 45) : Calls Tryz.prog 124 #[.string s] w fun e w' =>
    e = .returned (.tuple #[.bool false, .string s, .bool (formB s.data.toList)]) ∧ w = w' := by
  obtain ⟨f, hf⟩ : ∃ f, formB s.data.toList = f := ⟨_, rfl⟩
  rw [hf]
  have HF := hid hf
  clear hf
  by_cases h0 : 0 < s.size
  · have q0 : decide ((0 : Int) < (s.size : Int)) = true := by simp; omega
    have q1 : ((s[0].toNat : Int) == 45) = false := by
      rw [beq_eq_false_iff_ne]
      intro e
      refine h1 h0 ?_
      have : s[0].toNat = (45 : UInt8).toNat := by simp; omega
      exact UInt8.toNat_inj.1 this
    clear h1
    go_enter Tryz.func124, Tryz.ntmps124
    go_wp2_with fail
    refine (r2_digits _ s hs).mono ?_; rintro e w1 ⟨rfl, rfl⟩
    rw [HF.out]
    cases f
    all_goals
      go_wp2_with fail
      exact bodyPost_ret (v := .tuple #[.bool false, .string s, .bool _]) (by simp [results, Tryz.results124, go_sem]) rfl ⟨rfl, rfl⟩
  · obtain rfl : s = ⟨#[]⟩ := by
      apply ByteArray.ext
      exact Array.eq_empty_of_size_eq_zero (by have : s.data.size = s.size := rfl; omega)
    clear h1 h0 hs
    go_enter Tryz.func124, Tryz.ntmps124
    go_wp2_with fail
    refine (r2_digits _ ⟨#[]⟩ (Nat.zero_le _)).mono ?_; rintro e w1 ⟨rfl, rfl⟩
    rw [HF.out]
    cases f
    all_goals
      go_wp2_with fail
      exact bodyPost_ret (v := .tuple #[.bool false, .string ⟨#[]⟩, .bool _]) (by simp [results, Tryz.results124, go_sem]) rfl ⟨rfl, rfl⟩
end Go.Proofs.YtgphopkifomffaaGreatDoor
namespace Go.Proofs.YtgphopkifomffaaGreatDoor
open Go.RowKit
open Go.Lib (decDigits nDigits)
set_option linter.unusedVariables false
theorem ba_list_iff {a b : ByteArray} : a.data.toList = b.data.toList ↔ a = b := ⟨ba_ext, fun e => by rw [e]⟩
theorem r2_integer (w : World) (s : ByteArray) (hs : s.size ≤ 9223372036854775807) : Calls Tryz.prog 124 #[.string s] w fun e w' =>
    e = .returned (.tuple #[.bool (iM s), .string (iD s), .bool (iB s)]) ∧ w = w' := by
  have hl : s.data.toList.length = s.size := by simp
  by_cases h : ∃ h0 : 0 < s.size, s[0] = 45
  · obtain ⟨h0, h1⟩ := h
    have hg := byte_get h0
    rw [h1] at hg
    obtain ⟨t, ht⟩ : ∃ t, s.data.toList = 45 :: t := by
      cases hc : s.data.toList with
      | nil => rw [hc] at hg; simp at hg
      | cons b t => rw [hc] at hg; simp at hg; exact ⟨t, by rw [hg]⟩
    have hM : iM s = true := by unfold iM Lib.hasPrefix; rw [ht]; simp [List.isPrefixOf]
    have hD : iD s = s.extract 1 s.size := by
      apply ba_ext
      rw [extract_list, ht]
      unfold iD Lib.trimPrefix
      rw [show Lib.hasPrefix s.data.toList [45] = true from hM, ht]
      have : s.size = t.length + 1 := by rw [← hl, ht]; simp
      simp [this]
    have H := r2_integer_minus w s hs h0 h1
    rw [← hD] at H
    have e : iB s = (formB (iD s).data.toList && !decide ((iD s).data.toList = [48])) := by
      unfold iB fB
      rw [hM, Bool.true_and]
      have : decide (iD s = ⟨#[48]⟩) = decide ((iD s).data.toList = [48]) := decide_eq_decide.2 (by rw [← ba_list_iff])
      rw [this]
    rw [hM, e]
    exact H
  · have h1 : ∀ h : 0 < s.size, s[0] ≠ 45 := fun h0 e => h ⟨h0, e⟩
    have hM : iM s = false := by
      unfold iM Lib.hasPrefix
      cases hc : s.data.toList with
      | nil => rfl
      | cons b t =>
        have h0 : 0 < s.size := by rw [← hl, hc]; simp
        have hg := byte_get h0
        rw [hc] at hg
        simp at hg
        have h3 : ((45 : UInt8) == b) = false := by rw [beq_eq_false_iff_ne, hg]; exact fun e => h1 h0 e.symm
        simp [List.isPrefixOf, h3]
    have hD : iD s = s := by
      apply ba_ext
      unfold iD Lib.trimPrefix
      rw [show Lib.hasPrefix s.data.toList [45] = false from hM]
      simp
    have H := r2_integer_plain w s hs h1
    have e : iB s = formB s.data.toList := by unfold iB fB; rw [hM, hD]; simp
    rw [hM, hD, e]
    exact H
end Go.Proofs.YtgphopkifomffaaGreatDoor
namespace Go.Proofs.YtgphopkifomffaaGreatDoor
open Go.RowKit
set_option linter.unusedVariables false
set_option maxHeartbeats 2000000 in
theorem r1_Order (w : World) (v u : Value) (a b : Nat) (ha : IsN .i64 w v a) (hb : IsN .i64 w u b) :
    Calls Tryz.prog 132 #[v, u] w fun e w' => e = .returned (.int .i64 (ordN a b)) ∧ Below w.heap.size w w' := by
  obtain ⟨a1, c1, rfl, h1, h2, h3⟩ := ha.openI
  obtain ⟨a2, c2, rfl, k1, k2, k3⟩ := hb.openI
  have H3 := hid h3; have K3 := hid k3; clear h3 k3 ha hb
  by_cases hne : (limbs a).length = (limbs b).length
  · obtain ⟨n, ea⟩ : ∃ n, (limbs a).length = n := ⟨_, rfl⟩
    have eb : (limbs b).length = n := hne.symm.trans ea
    rw [ea] at h1 ⊢
    rw [eb] at k1 ⊢
    have HA := hid ea; have HB := hid eb
    clear hne ea eb
    go_enter Tryz.func132, Tryz.ntmps132
    go_wp2_with fail
    go_loopw [5] (fun i wr => ∃ (k : Nat) (t : Int), k ≤ n ∧ i = .int .i64 t ∧ t = (k : Int) - 1 ∧ Hid ((limbs a).drop k = (limbs b).drop k) ∧ Hid (Below w.heap.size w wr)) (fun i _ => (intOf i + 1).toNat)
    case atStart => exact ⟨n, _, Nat.le_refl _, rfl, rfl, by rw [Hid, List.drop_of_length_le (by rw [HA.out]; exact Nat.le_refl _), List.drop_of_length_le (by rw [HB.out]; exact Nat.le_refl _)], Below.refl _ _⟩
    case round =>
      obtain ⟨k, t, hk, rfl, ht, hd, hB⟩ := hrel
      cases k with
      | zero =>
        obtain rfl : t = -1 := by omega
        clear ht
        go_wp2_with fail
        go_ret
        have : a = b := limbs_inj hd.out
        subst this
        exact ⟨ret_int ordN_eq.symm, hB.out⟩
      | succ k =>
        obtain rfl : t = (k : Int) := by omega
        clear ht
        obtain ⟨x, hx⟩ : ∃ x, (limbs a)[k]? = some x := ⟨_, List.getElem?_eq_getElem (by rw [HA.out]; omega)⟩
        obtain ⟨y, hy⟩ : ∃ y, (limbs b)[k]? = some y := ⟨_, List.getElem?_eq_getElem (by rw [HB.out]; omega)⟩
        obtain ⟨g, o, rfl, hg, hc⟩ := H3.out k x hx
        obtain ⟨g', o', rfl, hg', hc'⟩ := K3.out k y hy
        have d1 := (hB.out.cell (p := ⟨g, o + k, none⟩) hg).trans hc
        have d2 := (hB.out.cell (p := ⟨g', o' + k, none⟩) hg').trans hc'
        have HX := hid hx; have HY := hid hy; clear hx hy hc hc'
        have b1 : (0 : Int) ≤ (k : Int) := by omega
        have b2 : (k : Int) < (n : Int) := by omega
        rcases Nat.lt_trichotomy x y with hlt | heq | hgt
        · have q1 : decide (x < y) = true := by simpa using hlt
          go_wp2_with fail
          go_quiet (fail)
          go_wp2_with fail
          go_ret
          exact ⟨ret_int (ordN_lt (ord_lt_at (HA.out.trans HB.out.symm) HX.out HY.out hd.out hlt)).symm, below_drewN hB.out _⟩
        · have q1 : decide (x < y) = false := by simp; omega
          have q2 : decide (y < x) = false := by simp; omega
          go_wp2_with fail
          go_quiet (fail)
          go_wp2_with fail
          go_quiet (fail)
          go_wp2_with fail
          go_roundw
          case rel => exact ⟨k, _, by omega, rfl, rfl, drop_eq_next HX.out (by rw [HY.out, heq]) hd.out, below_drewN hB.out _⟩
          case measure => simp [intOf] <;> omega
        · have q1 : decide (x < y) = false := by simp; omega
          have q2 : decide (y < x) = true := by simpa using hgt
          go_wp2_with fail
          go_quiet (fail)
          go_wp2_with fail
          go_quiet (fail)
          go_wp2_with fail
          go_ret
          exact ⟨ret_int (ordN_gt (ord_lt_at (HB.out.trans HA.out.symm) HY.out HX.out hd.out.symm hgt)).symm, below_drewN (below_drewN hB.out _) _⟩
  · rcases Nat.lt_or_gt_of_ne hne with hlt | hgt
    · have HL := hid (lt_of_length hlt)
      have q0 : (((limbs a).length : Int) != ((limbs b).length : Int)) = true := by simp; omega
      have q1 : decide ((limbs a).length < (limbs b).length) = true := by simpa using hlt
      clear hne
      go_enter Tryz.func132, Tryz.ntmps132
      go_wp2_with fail
      go_ret
      exact ⟨ret_int (ordN_lt HL.out).symm, Below.refl _ _⟩
    · have HL := hid (lt_of_length hgt)
      have q0 : (((limbs a).length : Int) != ((limbs b).length : Int)) = true := by simp; omega
      have q1 : decide ((limbs a).length < (limbs b).length) = false := by simp; omega
      clear hne
      go_enter Tryz.func132, Tryz.ntmps132
      go_wp2_with fail
      go_ret
      exact ⟨ret_int (ordN_gt HL.out).symm, Below.refl _ _⟩
end Go.Proofs.YtgphopkifomffaaGreatDoor
namespace Go.Proofs.YtgphopkifomffaaGreatDoor
open Go.RowKit
set_option linter.unusedVariables false
theorem make_limbs (n : Nat) (hn : n ≤ 3000000) (W : World) : (Instr.makeSlice 80 (.int .i64 (n : Int)) (.int .i64 (n : Int))).run Tryz.prog W = .ok (.slice (some ⟨W.heap.size, 0, none⟩) n n) (W.alloc (.cells (madeCells #[.int .i64 0] n) 3)) :=
  run_make_row' (P := Tryz.prog) 80 3 (.int .i64 0) 8 Tryz.underlying80 (by kernel_rfl) rfl .i64 .i64 n (by omega) (by omega) W
end Go.Proofs.YtgphopkifomffaaGreatDoor
namespace Go.Proofs.YtgphopkifomffaaGreatDoor
open Go.RowKit
set_option linter.unusedVariables false
set_option maxRecDepth 100000 in
set_option maxHeartbeats 2000000 in
theorem r1_ReadF (w : World) (s : ByteArray) (hd : allDig s.data.toList) (hs : s.size ≤ 1000000) :
    Calls Tryz.prog 41 #[.string s] w fun e w' => RetFr w.heap.size .i64 (dv s.data.toList) e w' ∧ Below w.heap.size w w' := by
  obtain ⟨i0, hi, hz0, hz1, hz2⟩ := info_parts info_int
  have HD := hid hd; clear hd
  have hsl := hid (show s.data.toList.length = s.size from by simp)
  go_enter Tryz.func41, Tryz.ntmps41
  go_wp2_with fail
  go_loopw [3, 4, 5, 6] (fun o ee nn ii wr => ∃ (l : List Nat) (t : Int) (e : Nat), ee = .int .i64 t ∧ t ≤ s.size ∧ -9 < t ∧ e = t.toNat ∧ l.length ≤ s.size ∧ l.length + e ≤ s.size ∧ Hid (ReadI s.data.toList e l) ∧ Hid (wr.ownsRow w.heap.size 3 1 o l.length (ints .i64 l)) ∧ Hid (Below w.heap.size w wr))
    (fun _ ee _ _ _ => (intOf ee).toNat)
  case atStart => exact ⟨[], _, s.size, rfl, by omega, by omega, by simp, by simp, by simp, by have := ReadI.start s.data.toList; rw [hsl.out] at this; exact this, World.ownsRow_nil _ _ _ _, Below.refl _ _⟩
  case round =>
    obtain ⟨l, t, e, rfl, ht1, ht2, he, hl1, hl2, hR, hO, hB⟩ := hrel
    obtain ⟨ao, co, rfl⟩ := owns_ex hO.out
    by_cases h0 : e = 0
    · have q0 : decide ((0 : Int) < t) = false := by simp; omega
      subst h0
      have hv := hid hR.out.done
      clear he
      go_wp2_with fail
      refine (r1_trim_at _ _ _ l hR.out.sm (Row.of_owns hO.out)).mono ?_
      rintro e w1 ⟨⟨m, rfl, hv1⟩, rfl⟩
      go_wp2_with fail
      go_ret
      refine ⟨⟨_, rfl, by rw [← hv.out]; exact hv1, fun g hg => (hO.out.lt g ?_).1⟩, hB.out⟩
      cases ao with
      | none => simp [Value.ownBlock] at hg
      | some ad => simpa [Value.ownBlock] using hg
    · obtain rfl : t = (e : Int) := by omega
      clear he
      have q0 : decide ((0 : Int) < (e : Int)) = true := by simp; omega
      obtain ⟨L, hL⟩ : ∃ L, s.data.toList = L := ⟨_, rfl⟩
      obtain ⟨s0, hs0⟩ : ∃ s0, s0 = e - 9 := ⟨_, rfl⟩
      have HS0 := hid hs0
      have h3 : s0 ≤ e := by omega
      have h4 : e ≤ s0 + 9 := by omega
      have hI : (9 < e ∧ (e : Int) - 9 = (s0 : Int)) ∨ (e ≤ 9 ∧ (0 : Int) = (s0 : Int)) := by omega
      clear hs0
      rcases hI with ⟨h9, hse⟩ | ⟨h9, hse⟩
      all_goals
        have HSE := hid hse
        clear hse
        go_wp2_with fail
        go_loop [5, 6] (fun nn ii => ∃ (i x : Nat), ii = .int .i64 i ∧ nn = .int .i64 x ∧ s0 ≤ i ∧ i ≤ e ∧ x < 1000000000 ∧ Hid (x = dv ((L.drop s0).take (i - s0)))) (fun _ ii => e - (intOf ii).toNat)
        case atStart => exact ⟨s0, 0, by have hh := HSE.out; first | (rw [← hh]; done) | (congr 1; omega), rfl, Nat.le_refl _, h3, by omega, by simp [Hid]⟩
        case round =>
          obtain ⟨i, x, rfl, rfl, hi1, hi2, hx, hxd⟩ := hrel
          by_cases hlt : i < e
          · have hsz : i < s.size := by omega
            have hb := byte_get hsz
            rw [hL] at hb
            have hdig := isDig_iff.1 (HD.out s[i] (List.mem_of_getElem? (by rw [hL]; exact hb)))
            have hd1 := hdig.1; have hd2 := hdig.2
            have hcs := hid (chunk_succ hb hi1)
            have hlt9 := hid (chunk_lt (L := L) (a := s0) (k := i + 1 - s0) (by rw [← hL]; exact HD.out) (by omega))
            clear hb hdig
            go_wp2_with fail
            go_round
            case rel =>
              refine ⟨i + 1, 10 * x + (s[i].toNat - 48), by go_num, ?_, by omega, by omega, ?_, ?_⟩
              · congr 1; omega
              · have := hlt9.out; rw [hcs.out, ← hxd.out] at this; exact this
              · rw [Hid, hcs.out, ← hxd.out]
            case measure => simp [intOf] <;> omega
          · obtain rfl : i = e := by omega
            have HN := hid (hR.out.next HD.out)
            rw [hL, ← HS0.out, ← hxd.out] at HN
            go_wp2_with (at_builtin; refine wpList_append_own _ rfl _ _ 80 rfl w.heap.size 3 i0 (.int .i64 0) 1 8 Tryz.underlying80 hi hz0 hz1 hz2 rfl (by decide) _ l.length _ rfl (hO.out.alloc _) ⟨wr.heap.size, 0, none⟩ 1 1 [.int .i64 (x : Int)] rfl rfl (cell_one_new wr (.int .i64 (x : Int)) 3) (by simp [Value.oneCell']) (by unfold maxLen; omega) (by omega) (by have := hB.out.size; simp; omega) ?_; intro v' w3 hown3 hgrow3 _; have HO3 := hid hown3; have HG3 := hid hgrow3; clear hown3 hgrow3)
            obtain ⟨n1, n2⟩ := own_next hO.out hB.out HO3.out HG3.out
            have N1 := hid n1; have N2 := hid n2; clear n1 n2 HO3 HG3
            obtain ⟨a3, k3, rfl⟩ := owns_ex N1.out
            have hS := HS0.out
            go_wp2_with fail
            go_roundw
            case rel => exact ⟨l ++ [x], _, s0, rfl, by omega, by omega, by omega, by simp <;> omega, by simp <;> omega, by rw [hL]; exact HN, N1, N2⟩
            case measure => simp [intOf] <;> omega
theorem r1_Read (w : World) (s : ByteArray) (hd : allDig s.data.toList) (hs : s.size ≤ 1000000) :
    Calls Tryz.prog 41 #[.string s] w fun e w' => RetN .i64 (dv s.data.toList) e w' ∧ Below w.heap.size w w' := (r1_ReadF w s hd hs).mono fun e w' h => ⟨h.1.ret, h.2⟩
end Go.Proofs.YtgphopkifomffaaGreatDoor
namespace Go.Proofs.YtgphopkifomffaaGreatDoor
open Go.RowKit
open Go.Lib (decDigits nDigits)
set_option linter.unusedVariables false
theorem r1_Write (w : World) (v : Value) (n : Nat) (h : IsN .i64 w v n) (hl : (limbs n).length ≤ 1000000) : Calls Tryz.prog 76 #[v] w fun e w' => e = .returned (numV n) ∧ Below w.heap.size w w' := by
  rcases Nat.eq_zero_or_pos n with rfl | h0
  · exact r1_Write_zero w v h
  · exact r1_Write_pos w v n h h0 hl
theorem r1_Read_num (w : World) (a : Nat) (h : nDigits a ≤ 9000) : Calls Tryz.prog 41 #[.string (numB a)] w fun e w' => RetN .i64 a e w' ∧ Below w.heap.size w w' := by
  have := r1_Read w (numB a) (by rw [numB_list]; exact allDig_dec a) (by rw [numB_size]; omega)
  rwa [numB_list, dv_dec] at this
end Go.Proofs.YtgphopkifomffaaGreatDoor
namespace Go.Proofs.YtgphopkifomffaaGreatDoor
open Go.RowKit
open Go.Lib (decDigits nDigits)
set_option linter.unusedVariables false
set_option linter.unusedSimpArgs false
def WrKey (m : Bool) (B1 B2 T : ByteArray) (x : Int) : Prop :=
  (4000 < B1.size ∧ T = ⟨#[]⟩ ∧ x = 5) ∨ (B1.size ≤ 4000 ∧ 4000 < B2.size ∧ T = ⟨#[]⟩ ∧ x = 5) ∨
  (B1.size ≤ 4000 ∧ B2.size ≤ 4000 ∧ x = 0 ∧ ((m = false ∧ B2 = ⟨#[49]⟩ ∧ T = B1) ∨ (m = true ∧ B2 = ⟨#[49]⟩ ∧ T = ⟨#[45]⟩ ++ B1) ∨ (m = false ∧ ¬ B2 = ⟨#[49]⟩ ∧ T = B1 ++ ⟨#[47]⟩ ++ B2) ∨ (m = true ∧ ¬ B2 = ⟨#[49]⟩ ∧ T = ⟨#[45]⟩ ++ B1 ++ ⟨#[47]⟩ ++ B2)))
set_option maxRecDepth 100000 in
set_option maxHeartbeats 4000000 in
theorem r2_Write_walk (w : World) (m : Bool) (N D : Value) (n d : Nat) (B1 B2 T : ByteArray) (x : Int) (hn : IsN .i64 w N n) (hd : IsN .i64 w D d) (hln : (limbs n).length ≤ 1000000) (hld : (limbs d).length ≤ 1000000)
    (e1 : numB n = B1) (e2 : numB d = B2) (key : WrKey m B1 B2 T x) :
    Calls Tryz.prog 44 #[.agg #[.bool m, N, D]] w fun e w' => e = .returned (.tuple #[.string T, .int .i64 x]) ∧ Below w.heap.size w w' := by
  have HN := hid hn; have HD := hid hd; have LN := hid hln; have LD := hid hld; have E1 := hid e1; have E2 := hid e2
  obtain ⟨a1, c1, rfl, _⟩ := hn.openI
  obtain ⟨a2, c2, rfl, _⟩ := hd.openI
  obtain ⟨k1, hk1⟩ : ∃ k, (limbs n).length = k := ⟨_, rfl⟩
  obtain ⟨k2, hk2⟩ : ∃ k, (limbs d).length = k := ⟨_, rfl⟩
  rw [hk1] at HN ⊢
  rw [hk2] at HD ⊢
  clear hn hd hln hld e1 e2 hk1 hk2
  unfold WrKey at key
  rcases key with ⟨h1, rfl, rfl⟩ | ⟨h1, h2, rfl, rfl⟩ | ⟨h1, h2, rfl, ⟨rfl, rfl, rfl⟩ | ⟨rfl, rfl, rfl⟩ | ⟨rfl, h3, rfl⟩ | ⟨rfl, h3, rfl⟩⟩
  · have q0 : decide ((4000 : Int) < (B1.size : Int)) = true := by simp; omega
    clear h1
    go_enter Tryz.func44, Tryz.ntmps44
    go_wp2_with fail
    obtain ⟨W, hW⟩ : ∃ W, w.alloc (.cells #[.bool m, .slice a1 k1 c1, .slice a2 k2 c2] 83) = W := ⟨_, rfl⟩
    rw [hW]
    have X0 : Below w.heap.size w W := by rw [← hW]; exact (Below.refl _ _).alloc (Nat.le_refl _) _
    have Y0 : Blk W w.heap.size #[.bool m, .slice a1 k1 c1, .slice a2 k2 c2] 83 := by rw [← hW]; exact Blk.new w _ _
    have K : Hid (∀ w', Below W.heap.size W w' → w'.cell? ⟨w.heap.size, 0, none⟩ = some (.bool m) ∧ w'.cell? ⟨w.heap.size, 1, none⟩ = some (.slice a1 k1 c1) ∧ w'.cell? ⟨w.heap.size, 2, none⟩ = some (.slice a2 k2 c2)) :=
      fun w' hb => ⟨(Y0.call hb).cell 0, (Y0.call hb).cell 1, (Y0.call hb).cell 2⟩
    have HX0 := hid X0
    obtain ⟨k0, k1', k2'⟩ := K W (Below.refl _ _)
    have XN := hid (HN.out.call HX0.out); have XD := hid (HD.out.call HX0.out)
    clear Y0 X0 hW
    go_region_held3 (fun w' => w'.cell? ⟨w.heap.size, 0, none⟩ = some (.bool m) ∧ w'.cell? ⟨w.heap.size, 1, none⟩ = some (.slice a1 k1 c1) ∧ w'.cell? ⟨w.heap.size, 2, none⟩ = some (.slice a2 k2 c2))
      (first
        | exact K.out _ (Below.refl _ _).drew
        | exact K.out _ bb2.out
        | exact K.out _ bb1.out)
      (first
        | (go_at_call_of 76 (Value.slice a1 k1 c1); refine (r1_Write _ _ n (XN.out.call (by first | exact bb2.out | exact (Below.refl _ _).drew)) LN.out).mono ?_; rintro e w1 ⟨rfl, hb1⟩; rw [numV_eq, E1.out]; have bb1 := hid (bnext (by first | exact bb2.out | exact (Below.refl _ _).drew) hb1))
        | (go_at_call_of 76 (Value.slice a2 k2 c2); refine (r1_Write _ _ d (XD.out.call (by first | exact bb1.out | exact (Below.refl _ _).drew)) LD.out).mono ?_; rintro e w2 ⟨rfl, hb2⟩; rw [numV_eq, E2.out]; have bb2 := hid (bnext (by first | exact bb1.out | exact (Below.refl _ _).drew) hb2)))
    go_wp2_with fail
    go_ret2
    exact ⟨rfl, bnext HX0.out bb2.out⟩
  · have q0 : decide ((4000 : Int) < (B1.size : Int)) = false := by simp; omega
    have q1 : decide ((4000 : Int) < (B2.size : Int)) = true := by simp; omega
    clear h1 h2
    go_enter Tryz.func44, Tryz.ntmps44
    go_wp2_with fail
    obtain ⟨W, hW⟩ : ∃ W, w.alloc (.cells #[.bool m, .slice a1 k1 c1, .slice a2 k2 c2] 83) = W := ⟨_, rfl⟩
    rw [hW]
    have X0 : Below w.heap.size w W := by rw [← hW]; exact (Below.refl _ _).alloc (Nat.le_refl _) _
    have Y0 : Blk W w.heap.size #[.bool m, .slice a1 k1 c1, .slice a2 k2 c2] 83 := by rw [← hW]; exact Blk.new w _ _
    have K : Hid (∀ w', Below W.heap.size W w' → w'.cell? ⟨w.heap.size, 0, none⟩ = some (.bool m) ∧ w'.cell? ⟨w.heap.size, 1, none⟩ = some (.slice a1 k1 c1) ∧ w'.cell? ⟨w.heap.size, 2, none⟩ = some (.slice a2 k2 c2)) :=
      fun w' hb => ⟨(Y0.call hb).cell 0, (Y0.call hb).cell 1, (Y0.call hb).cell 2⟩
    have HX0 := hid X0
    obtain ⟨k0, k1', k2'⟩ := K W (Below.refl _ _)
    have XN := hid (HN.out.call HX0.out); have XD := hid (HD.out.call HX0.out)
    clear Y0 X0 hW
    go_region_held3 (fun w' => w'.cell? ⟨w.heap.size, 0, none⟩ = some (.bool m) ∧ w'.cell? ⟨w.heap.size, 1, none⟩ = some (.slice a1 k1 c1) ∧ w'.cell? ⟨w.heap.size, 2, none⟩ = some (.slice a2 k2 c2))
      (first
        | exact K.out _ (Below.refl _ _).drew
        | exact K.out _ bb2.out
        | exact K.out _ bb1.out)
      (first
        | (go_at_call_of 76 (Value.slice a1 k1 c1); refine (r1_Write _ _ n (XN.out.call (by first | exact bb2.out | exact (Below.refl _ _).drew)) LN.out).mono ?_; rintro e w1 ⟨rfl, hb1⟩; rw [numV_eq, E1.out]; have bb1 := hid (bnext (by first | exact bb2.out | exact (Below.refl _ _).drew) hb1))
        | (go_at_call_of 76 (Value.slice a2 k2 c2); refine (r1_Write _ _ d (XD.out.call (by first | exact bb1.out | exact (Below.refl _ _).drew)) LD.out).mono ?_; rintro e w2 ⟨rfl, hb2⟩; rw [numV_eq, E2.out]; have bb2 := hid (bnext (by first | exact bb1.out | exact (Below.refl _ _).drew) hb2)))
    go_wp2_with fail
    go_ret2
    exact ⟨rfl, bnext HX0.out bb2.out⟩
  · have q0 : decide ((4000 : Int) < (T.size : Int)) = false := by simp; omega
    clear h2
    go_enter Tryz.func44, Tryz.ntmps44
    go_wp2_with fail
    obtain ⟨W, hW⟩ : ∃ W, w.alloc (.cells #[.bool false, .slice a1 k1 c1, .slice a2 k2 c2] 83) = W := ⟨_, rfl⟩
    rw [hW]
    have X0 : Below w.heap.size w W := by rw [← hW]; exact (Below.refl _ _).alloc (Nat.le_refl _) _
    have Y0 : Blk W w.heap.size #[.bool false, .slice a1 k1 c1, .slice a2 k2 c2] 83 := by rw [← hW]; exact Blk.new w _ _
    have K : Hid (∀ w', Below W.heap.size W w' → w'.cell? ⟨w.heap.size, 0, none⟩ = some (.bool false) ∧ w'.cell? ⟨w.heap.size, 1, none⟩ = some (.slice a1 k1 c1) ∧ w'.cell? ⟨w.heap.size, 2, none⟩ = some (.slice a2 k2 c2)) :=
      fun w' hb => ⟨(Y0.call hb).cell 0, (Y0.call hb).cell 1, (Y0.call hb).cell 2⟩
    have HX0 := hid X0
    obtain ⟨k0, k1', k2'⟩ := K W (Below.refl _ _)
    have XN := hid (HN.out.call HX0.out); have XD := hid (HD.out.call HX0.out)
    clear Y0 X0 hW
    go_region_held3 (fun w' => w'.cell? ⟨w.heap.size, 0, none⟩ = some (.bool false) ∧ w'.cell? ⟨w.heap.size, 1, none⟩ = some (.slice a1 k1 c1) ∧ w'.cell? ⟨w.heap.size, 2, none⟩ = some (.slice a2 k2 c2))
      (first
        | exact K.out _ (Below.refl _ _).drew
        | exact K.out _ bb2.out
        | exact K.out _ bb1.out)
      (first
        | (go_at_call_of 76 (Value.slice a1 k1 c1); refine (r1_Write _ _ n (XN.out.call (by first | exact bb2.out | exact (Below.refl _ _).drew)) LN.out).mono ?_; rintro e w1 ⟨rfl, hb1⟩; rw [numV_eq, E1.out]; have bb1 := hid (bnext (by first | exact bb2.out | exact (Below.refl _ _).drew) hb1))
        | (go_at_call_of 76 (Value.slice a2 k2 c2); refine (r1_Write _ _ d (XD.out.call (by first | exact bb1.out | exact (Below.refl _ _).drew)) LD.out).mono ?_; rintro e w2 ⟨rfl, hb2⟩; rw [numV_eq, E2.out]; have bb2 := hid (bnext (by first | exact bb1.out | exact (Below.refl _ _).drew) hb2)))
    go_wp2_with fail
    go_ret2
    exact ⟨rfl, bnext HX0.out bb2.out⟩
  · have q0 : decide ((4000 : Int) < (B1.size : Int)) = false := by simp; omega
    clear h2
    go_enter Tryz.func44, Tryz.ntmps44
    go_wp2_with fail
    obtain ⟨W, hW⟩ : ∃ W, w.alloc (.cells #[.bool true, .slice a1 k1 c1, .slice a2 k2 c2] 83) = W := ⟨_, rfl⟩
    rw [hW]
    have X0 : Below w.heap.size w W := by rw [← hW]; exact (Below.refl _ _).alloc (Nat.le_refl _) _
    have Y0 : Blk W w.heap.size #[.bool true, .slice a1 k1 c1, .slice a2 k2 c2] 83 := by rw [← hW]; exact Blk.new w _ _
    have K : Hid (∀ w', Below W.heap.size W w' → w'.cell? ⟨w.heap.size, 0, none⟩ = some (.bool true) ∧ w'.cell? ⟨w.heap.size, 1, none⟩ = some (.slice a1 k1 c1) ∧ w'.cell? ⟨w.heap.size, 2, none⟩ = some (.slice a2 k2 c2)) :=
      fun w' hb => ⟨(Y0.call hb).cell 0, (Y0.call hb).cell 1, (Y0.call hb).cell 2⟩
    have HX0 := hid X0
    obtain ⟨k0, k1', k2'⟩ := K W (Below.refl _ _)
    have XN := hid (HN.out.call HX0.out); have XD := hid (HD.out.call HX0.out)
    clear Y0 X0 hW
    go_region_held3 (fun w' => w'.cell? ⟨w.heap.size, 0, none⟩ = some (.bool true) ∧ w'.cell? ⟨w.heap.size, 1, none⟩ = some (.slice a1 k1 c1) ∧ w'.cell? ⟨w.heap.size, 2, none⟩ = some (.slice a2 k2 c2))
      (first
        | exact K.out _ (Below.refl _ _).drew
        | exact K.out _ bb2.out
        | exact K.out _ bb1.out)
      (first
        | (go_at_call_of 76 (Value.slice a1 k1 c1); refine (r1_Write _ _ n (XN.out.call (by first | exact bb2.out | exact (Below.refl _ _).drew)) LN.out).mono ?_; rintro e w1 ⟨rfl, hb1⟩; rw [numV_eq, E1.out]; have bb1 := hid (bnext (by first | exact bb2.out | exact (Below.refl _ _).drew) hb1))
        | (go_at_call_of 76 (Value.slice a2 k2 c2); refine (r1_Write _ _ d (XD.out.call (by first | exact bb1.out | exact (Below.refl _ _).drew)) LD.out).mono ?_; rintro e w2 ⟨rfl, hb2⟩; rw [numV_eq, E2.out]; have bb2 := hid (bnext (by first | exact bb1.out | exact (Below.refl _ _).drew) hb2)))
    go_wp2_with fail
    go_ret2
    exact ⟨rfl, bnext HX0.out bb2.out⟩
  · have q0 : decide ((4000 : Int) < (B1.size : Int)) = false := by simp; omega
    have q1 : decide ((4000 : Int) < (B2.size : Int)) = false := by simp; omega
    have i3 := ne_lit (l := [49]) h3
    go_enter Tryz.func44, Tryz.ntmps44
    go_wp2_with fail
    obtain ⟨W, hW⟩ : ∃ W, w.alloc (.cells #[.bool false, .slice a1 k1 c1, .slice a2 k2 c2] 83) = W := ⟨_, rfl⟩
    rw [hW]
    have X0 : Below w.heap.size w W := by rw [← hW]; exact (Below.refl _ _).alloc (Nat.le_refl _) _
    have Y0 : Blk W w.heap.size #[.bool false, .slice a1 k1 c1, .slice a2 k2 c2] 83 := by rw [← hW]; exact Blk.new w _ _
    have K : Hid (∀ w', Below W.heap.size W w' → w'.cell? ⟨w.heap.size, 0, none⟩ = some (.bool false) ∧ w'.cell? ⟨w.heap.size, 1, none⟩ = some (.slice a1 k1 c1) ∧ w'.cell? ⟨w.heap.size, 2, none⟩ = some (.slice a2 k2 c2)) :=
      fun w' hb => ⟨(Y0.call hb).cell 0, (Y0.call hb).cell 1, (Y0.call hb).cell 2⟩
    have HX0 := hid X0
    obtain ⟨k0, k1', k2'⟩ := K W (Below.refl _ _)
    have XN := hid (HN.out.call HX0.out); have XD := hid (HD.out.call HX0.out)
    clear Y0 X0 hW
    go_region_held3 (fun w' => w'.cell? ⟨w.heap.size, 0, none⟩ = some (.bool false) ∧ w'.cell? ⟨w.heap.size, 1, none⟩ = some (.slice a1 k1 c1) ∧ w'.cell? ⟨w.heap.size, 2, none⟩ = some (.slice a2 k2 c2))
      (first
        | exact K.out _ (Below.refl _ _).drew
        | exact K.out _ bb2.out
        | exact K.out _ bb1.out)
      (first
        | (go_at_call_of 76 (Value.slice a1 k1 c1); refine (r1_Write _ _ n (XN.out.call (by first | exact bb2.out | exact (Below.refl _ _).drew)) LN.out).mono ?_; rintro e w1 ⟨rfl, hb1⟩; rw [numV_eq, E1.out]; have bb1 := hid (bnext (by first | exact bb2.out | exact (Below.refl _ _).drew) hb1))
        | (go_at_call_of 76 (Value.slice a2 k2 c2); refine (r1_Write _ _ d (XD.out.call (by first | exact bb1.out | exact (Below.refl _ _).drew)) LD.out).mono ?_; rintro e w2 ⟨rfl, hb2⟩; rw [numV_eq, E2.out]; have bb2 := hid (bnext (by first | exact bb1.out | exact (Below.refl _ _).drew) hb2)))
    go_wp2_with fail
    go_ret2
    exact ⟨rfl, bnext HX0.out bb2.out⟩
  · have q0 : decide ((4000 : Int) < (B1.size : Int)) = false := by simp; omega
    have q1 : decide ((4000 : Int) < (B2.size : Int)) = false := by simp; omega
    have i3 := ne_lit (l := [49]) h3
    go_enter Tryz.func44, Tryz.ntmps44
    go_wp2_with fail
    obtain ⟨W, hW⟩ : ∃ W, w.alloc (.cells #[.bool true, .slice a1 k1 c1, .slice a2 k2 c2] 83) = W := ⟨_, rfl⟩
    rw [hW]
    have X0 : Below w.heap.size w W := by rw [← hW]; exact (Below.refl _ _).alloc (Nat.le_refl _) _
    have Y0 : Blk W w.heap.size #[.bool true, .slice a1 k1 c1, .slice a2 k2 c2] 83 := by rw [← hW]; exact Blk.new w _ _
    have K : Hid (∀ w', Below W.heap.size W w' → w'.cell? ⟨w.heap.size, 0, none⟩ = some (.bool true) ∧ w'.cell? ⟨w.heap.size, 1, none⟩ = some (.slice a1 k1 c1) ∧ w'.cell? ⟨w.heap.size, 2, none⟩ = some (.slice a2 k2 c2)) :=
      fun w' hb => ⟨(Y0.call hb).cell 0, (Y0.call hb).cell 1, (Y0.call hb).cell 2⟩
    have HX0 := hid X0
    obtain ⟨k0, k1', k2'⟩ := K W (Below.refl _ _)
    have XN := hid (HN.out.call HX0.out); have XD := hid (HD.out.call HX0.out)
    clear Y0 X0 hW
    go_region_held3 (fun w' => w'.cell? ⟨w.heap.size, 0, none⟩ = some (.bool true) ∧ w'.cell? ⟨w.heap.size, 1, none⟩ = some (.slice a1 k1 c1) ∧ w'.cell? ⟨w.heap.size, 2, none⟩ = some (.slice a2 k2 c2))
      (first
        | exact K.out _ (Below.refl _ _).drew
        | exact K.out _ bb2.out
        | exact K.out _ bb1.out)
      (first
        | (go_at_call_of 76 (Value.slice a1 k1 c1); refine (r1_Write _ _ n (XN.out.call (by first | exact bb2.out | exact (Below.refl _ _).drew)) LN.out).mono ?_; rintro e w1 ⟨rfl, hb1⟩; rw [numV_eq, E1.out]; have bb1 := hid (bnext (by first | exact bb2.out | exact (Below.refl _ _).drew) hb1))
        | (go_at_call_of 76 (Value.slice a2 k2 c2); refine (r1_Write _ _ d (XD.out.call (by first | exact bb1.out | exact (Below.refl _ _).drew)) LD.out).mono ?_; rintro e w2 ⟨rfl, hb2⟩; rw [numV_eq, E2.out]; have bb2 := hid (bnext (by first | exact bb1.out | exact (Below.refl _ _).drew) hb2)))
    go_wp2_with fail
    go_ret2
    exact ⟨rfl, bnext HX0.out bb2.out⟩
theorem numB_is1 {d : Nat} : numB d = ⟨#[49]⟩ ↔ d = 1 := by
  constructor
  · intro h
    rw [← numB_one] at h
    rcases Nat.decEq d 1 with h1 | h1
    · exact absurd h (numB_ne h1)
    · exact h1
  · rintro rfl; exact numB_one
theorem r2_Write (w : World) (v : Value) (q : Rat) (h : IsQ .i64 w v q) (h1 : (limbs q.num.natAbs).length ≤ 1000000) (h2 : (limbs q.den).length ≤ 1000000) :
    Calls Tryz.prog 44 #[v] w fun e w' => e = .returned (.tuple #[.string (outB q), .int .i64 (outE q)]) ∧ Below w.heap.size w w' := by
  obtain ⟨N, D, rfl, hn, hd⟩ := h.ex
  refine r2_Write_walk w _ N D q.num.natAbs q.den (numB q.num.natAbs) (numB q.den) (outB q) (outE q) hn hd h1 h2 rfl rfl ?_
  unfold WrKey outB outE
  rw [numB_size, numB_size]
  by_cases o1 : 4000 < nDigits q.num.natAbs
  · have ho : ovQ q := .inl o1
    rw [if_pos ho, if_pos ho]
    exact .inl ⟨o1, rfl, rfl⟩
  · by_cases o2 : 4000 < nDigits q.den
    · have ho : ovQ q := .inr o2
      rw [if_pos ho, if_pos ho]
      exact .inr (.inl ⟨by omega, o2, rfl, rfl⟩)
    · have ho : ¬ ovQ q := fun h => h.elim o1 o2
      rw [if_neg ho, if_neg ho]
      refine .inr (.inr ⟨by omega, by omega, rfl, ?_⟩)
      unfold txQ
      rw [numB_is1]
      generalize decide (q.num < 0) = m
      by_cases hd1 : q.den = 1
      · rw [hd1]
        cases m
        · exact .inl ⟨rfl, rfl, ba_ext (by simp [txB, numB])⟩
        · exact .inr (.inl ⟨rfl, rfl, ba_ext (by simp [txB, numB])⟩)
      · cases m
        · exact .inr (.inr (.inl ⟨rfl, hd1, ba_ext (by simp [txB, numB, hd1])⟩))
        · exact .inr (.inr (.inr ⟨rfl, hd1, ba_ext (by simp [txB, numB, hd1])⟩))
end Go.Proofs.YtgphopkifomffaaGreatDoor
namespace Go.Proofs.YtgphopkifomffaaGreatDoor
open Go.RowKit
open Go.Lib (decDigits nDigits)
set_option linter.unusedVariables false
theorem isN_one (w : World) : IsN .i64 (w.alloc (.cells #[.int .i64 1] 3)) (.slice (some ⟨w.heap.size, 0, none⟩) 1 1) 1 := by
  unfold IsN
  rw [limbs_one]
  exact Row.of_blk (b := w.heap.size) (n := 1) (c := 1) (cs := #[.int .i64 1]) (Blk.new w _ _) rfl (by unfold maxLen; omega) (fun i x hx => by simpa [ints] using hx) (Nat.le_refl _) (by unfold maxLen; omega)
end Go.Proofs.YtgphopkifomffaaGreatDoor
namespace Go.Proofs.YtgphopkifomffaaGreatDoor
open Go.RowKit
set_option linter.unusedVariables false
def Ret2N (k : IntKind) (n m : Nat) (e : Ending) (w' : World) : Prop := ∃ v, e = .returned (.tuple #[v, .int k (m : Int)]) ∧ IsN k w' v n
set_option maxRecDepth 100000 in
set_option maxHeartbeats 4000000 in
theorem r1_short (w : World) (v : Value) (a d : Nat) (ha : IsN .i64 w v a) (hd0 : 0 < d) (hd1 : d < 1000000000) (hla : (limbs a).length ≤ 1000000) :
    Calls Tryz.prog 188 #[v, .int .i64 d] w fun e w' => Ret2N .i64 (a / d) (a % d) e w' ∧ Below w.heap.size w w' := by
  obtain ⟨a1, c1, rfl, h1, h2, h3⟩ := ha.openI
  have H3 := hid h3; clear h3 ha
  obtain ⟨n, ea⟩ : ∃ n, (limbs a).length = n := ⟨_, rfl⟩
  rw [ea] at h1 hla ⊢
  have HA := hid ea
  clear ea
  have hmk := fun W => make_limbs n (by omega) W
  have hdz : ((d : Int) == 0) = false := by simp; omega
  go_enter Tryz.func188, Tryz.ntmps188
  go_wp2_with fail
  clear hmk
  go_loopw [7, 8, 9] (fun rr ii nn wr => ∃ (j r : Nat) (t : Int) (o : List Nat), rr = .int .i64 r ∧ ii = .int .i64 t ∧ t = (j : Int) - 1 ∧ j ≤ n ∧ Hid (SmallI a d j r o) ∧ Hid (Arr .i64 3 wr w.heap.size o) ∧ Hid (Below w.heap.size w wr)) (fun _ ii _ _ => (intOf ii + 1).toNat)
  case atStart => exact ⟨n, 0, _, _, rfl, rfl, rfl, Nat.le_refl _, by have := SmallI.start (a := a) hd0; rw [HA.out] at this; exact this, Arr.made w .i64 3 n, (Below.refl _ _).alloc (Nat.le_refl _) _⟩
  case round =>
    obtain ⟨j, r, t, o, rfl, rfl, ht, hj, hS, hO, hB⟩ := hrel
    have hsz : Hid (o.length = n) := by rw [Hid, hS.out.len, HA.out]
    cases j with
    | zero =>
      obtain rfl : t = -1 := by omega
      clear ht
      have hv := hid hS.out.done
      have hr := hid (show Row wr (.slice (some ⟨w.heap.size, 0, none⟩) n n) (ints .i64 o) from by
        have := hO.out.row (n := n) (c := n) (by rw [hsz.out]; exact Nat.le_refl _) (Nat.le_refl _) (by unfold maxLen; omega)
        rwa [List.take_of_length_le (by rw [hsz.out]; exact Nat.le_refl _)] at this)
      go_wp2_with (go_at_call 79; refine (r1_trim _ _ o hS.out.sm hr.out).mono ?_; rintro e w1 ⟨⟨v1, rfl, hv1⟩, rfl⟩)
      go_ret2
      exact ⟨⟨v1, ret_tup (by rw [hv.out.2]), by rw [← hv.out.1]; exact hv1⟩, hB.out⟩
    | succ j =>
      obtain rfl : t = (j : Int) := by omega
      clear ht
      obtain ⟨x, hx⟩ : ∃ x, (limbs a)[j]? = some x := ⟨_, List.getElem?_eq_getElem (by rw [HA.out]; omega)⟩
      obtain ⟨g, og, rfl, hg, hc⟩ := H3.out _ x hx
      have d1 := (hB.out.cell (p := ⟨g, og + j, none⟩) hg).trans hc
      obtain ⟨z, hz⟩ : ∃ z, o[j]? = some z := ⟨_, List.getElem?_eq_getElem (by rw [hsz.out]; omega)⟩
      have d3 := hO.out.cell hz
      have d4 := hO.out.free j
      have HN := hid (hS.out.next hx)
      have hxl := (sm_limbs a).get hx
      have hrl := hS.out.rd
      clear hx hc hz
      go_wp2_with fail
      go_roundw
      case rel =>
        have e1 : (((r : Int) * 1000000000 + x) / d) = (((r * 1000000000 + x) / d : Nat) : Int) := by rw [Int.natCast_ediv]; rfl
        have e2 : (((r : Int) * 1000000000 + x) % d) = (((r * 1000000000 + x) % d : Nat) : Int) := by rw [Int.natCast_emod]; rfl
        rw [e1]
        exact ⟨j, _, _, _, by rw [e2], rfl, by omega, by omega, HN, hO.out.set j _, below_set hB.out (Nat.le_refl _) _⟩
      case measure => simp [intOf] <;> omega
end Go.Proofs.YtgphopkifomffaaGreatDoor
namespace Go.Proofs.YtgphopkifomffaaGreatDoor
open Go.RowKit
set_option linter.unusedVariables false
def RetArr (k : IntKind) (t : TypeId) (B n len : Nat) (e : Ending) (w' : World) : Prop := ∃ g o, e = .returned (.slice (some ⟨g, 0, none⟩) len len) ∧ B ≤ g ∧ Arr k t w' g o ∧ o.length = len ∧ Sm o ∧ val o = n
set_option maxRecDepth 100000 in
set_option maxHeartbeats 4000000 in
theorem r1_scaled (w : World) (v : Value) (a d : Nat) (ha : IsN .i64 w v a) (hd1 : d < 1000000000) (hla : (limbs a).length ≤ 1000000) :
    Calls Tryz.prog 189 #[v, .int .i64 d] w fun e w' => RetArr .i64 3 w.heap.size (a * d) ((limbs a).length + 1) e w' ∧ Below w.heap.size w w' := by
  obtain ⟨a1, c1, rfl, h1, h2, h3⟩ := ha.openI
  have H3 := hid h3; clear h3 ha
  obtain ⟨n, ea⟩ : ∃ n, (limbs a).length = n := ⟨_, rfl⟩
  rw [ea] at h1 hla ⊢
  have HA := hid ea
  clear ea
  have hmk : ∀ W : World, (Instr.makeSlice 80 (.int .i64 ((n : Int) + 1)) (.int .i64 ((n : Int) + 1))).run Tryz.prog W = .ok (.slice (some ⟨W.heap.size, 0, none⟩) (n + 1) (n + 1)) (W.alloc (.cells (madeCells #[.int .i64 0] (n + 1)) 3)) := fun W => by
    have := make_limbs (n + 1) (by omega) W
    rwa [Int.natCast_add] at this
  go_enter Tryz.func189, Tryz.ntmps189
  go_wp2_with fail
  clear hmk
  go_loopw [6, 7, 8] (fun cc ii nn wr => ∃ (i c : Nat) (o : List Nat), cc = .int .i64 c ∧ ii = .int .i64 i ∧ i ≤ n ∧ Hid (ScaleI a d i c o) ∧ Hid (Arr .i64 3 wr w.heap.size o) ∧ Hid (Below w.heap.size w wr)) (fun _ ii _ _ => n - (intOf ii).toNat)
  case atStart => exact ⟨0, 0, _, rfl, rfl, Nat.zero_le _, ScaleI.start a d, by rw [HA.out]; exact Arr.made w .i64 3 (n + 1), (Below.refl _ _).alloc (Nat.le_refl _) _⟩
  case round =>
    obtain ⟨i, c, o, rfl, rfl, hin, hS, hO, hB⟩ := hrel
    have hsz : Hid (o.length = n + 1) := by rw [Hid, hS.out.len, HA.out]
    by_cases hlt : i < n
    · obtain ⟨x, hx⟩ : ∃ x, (limbs a)[i]? = some x := ⟨_, List.getElem?_eq_getElem (by rw [HA.out]; exact hlt)⟩
      obtain ⟨g, og, rfl, hg, hc⟩ := H3.out _ x hx
      have d1 := (hB.out.cell (p := ⟨g, og + i, none⟩) hg).trans hc
      obtain ⟨z, hz⟩ : ∃ z, o[i]? = some z := ⟨_, List.getElem?_eq_getElem (by rw [hsz.out]; omega)⟩
      have d3 := hO.out.cell hz
      have d4 := hO.out.free i
      have HN := hid (hS.out.next hd1 hx)
      have hb1 := mul_bound (old := 0) (by omega) ((sm_limbs a).get hx) hd1 hS.out.c1
      have hcl := hS.out.c1
      clear hx hc hz
      have HP := hid (show ((x : Int) * (d : Int)) = ((x * d : Nat) : Int) from (Int.natCast_mul x d).symm)
      obtain ⟨p, hp⟩ : ∃ p, x * d = p := ⟨_, rfl⟩
      rw [hp] at hb1 HN HP
      have hp2 := hb1.2; clear hb1 hp
      have e5 : IntKind.i64.wrap ((x : Int) * (d : Int)) = (p : Int) := by rw [HP.out]; exact IntWalk.i64_in _ (by omega)
      have e5' : wrap64 ((x : Int) * (d : Int)) = (p : Int) := by rw [HP.out]; exact IntWalk.wrap64_in _ (by omega)
      go_wp2_with fail
      clear e5 e5'
      go_roundw
      case rel =>
        have hz : (((p : Int) + c) % 1000000000) = (((p + c) % 1000000000 : Nat) : Int) := by omega
        rw [hz]
        exact ⟨i + 1, (p + c) / 1000000000, _, by go_num, by go_num, by omega, HN, hO.out.set i _, below_set hB.out (Nat.le_refl _) _⟩
      case measure => simp [intOf] <;> omega
    · obtain rfl : i = n := by omega
      obtain ⟨z, hz⟩ : ∃ z, o[i]? = some z := ⟨_, List.getElem?_eq_getElem (by rw [hsz.out]; omega)⟩
      have d3 := hO.out.cell hz
      have d4 := hO.out.free i
      clear hz
      have hD := hid (show val (o.set i c) = a * d ∧ Sm (o.set i c) ∧ (o.set i c).length = i + 1 from by have := hS.out; rw [← HA.out] at this ⊢; exact this.done)
      go_wp2_with fail
      go_ret
      exact ⟨⟨w.heap.size, _, rfl, Nat.le_refl _, hO.out.set i c, hD.out.2.2, hD.out.2.1, hD.out.1⟩, below_set hB.out (Nat.le_refl _) _⟩
end Go.Proofs.YtgphopkifomffaaGreatDoor
namespace Go.Proofs.YtgphopkifomffaaGreatDoor
open Go.RowKit
set_option linter.unusedVariables false
def StepOut (us vs : List Nat) (gu j n : Nat) (w : World) (e : Ending) (w' : World) : Prop :=
  e = .returned (.int .i64 ((val ((us.drop j).take (n + 1)) / val vs : Nat) : Int)) ∧ ∃ o, WinOut us j n (val ((us.drop j).take (n + 1)) % val vs) o ∧ Arr .i64 3 w' gu o ∧ w.grownBy w' (some gu)
set_option maxRecDepth 100000 in
set_option maxHeartbeats 8000000 in
theorem r1_step (w : World) (gu j cu : Nat) (us : List Nat) (gv ov cv : Nat) (vs : List Nat) (n : Nat) (hS : StepIn us vs j n) (hU : Arr .i64 3 w gu us) (hV : Row w (.slice (some ⟨gv, ov, none⟩) n cv) (ints .i64 vs)) (hne : gv ≠ gu) :
    Calls Tryz.prog 190 #[.slice (some ⟨gu, j, none⟩) (n + 1) cu, .slice (some ⟨gv, ov, none⟩) n cv] w fun e w' => StepOut us vs gu j n w e w' := by
  have n2 := hS.n2; have nm := hS.nm; have lu := hS.lu; have um := hS.um
  have cv' : ∀ i, i < n → w.cell? ⟨gv, ov + i, none⟩ = some (.int .i64 (vs.getD i 0 : Nat)) := fun i hi => by
    obtain ⟨g, o, e, hg, hc⟩ := hV.at (ints_get (getD_some (l := vs) (i := i) (by rw [hS.lv]; exact hi)))
    simp at e
    obtain ⟨rfl, rfl⟩ := e
    exact hc
  have cu' : ∀ i, i ≤ n → w.cell? ⟨gu, j + i, none⟩ = some (.int .i64 (us.getD (j + i) 0 : Nat)) := fun i hi => hU.cell (getD_some (by omega))
  have hE := hid hS.est
  have a0 := cu' n (Nat.le_refl _)
  have a1 := cu' (n - 1) (by omega)
  have a2 := cu' (n - 2) (by omega)
  have b1 := cv' (n - 1) (by omega)
  have b2 := cv' (n - 2) (by omega)
  have CV := hid cv'; have CU := hid cu'; have HS := hid hS; have HU := hid hU
  clear cv' cu' hS hU hV
  obtain ⟨u0, hu0⟩ : ∃ x, us.getD (j + n) 0 = x := ⟨_, rfl⟩
  obtain ⟨u1, hu1⟩ : ∃ x, us.getD (j + (n - 1)) 0 = x := ⟨_, rfl⟩
  obtain ⟨u2, hu2⟩ : ∃ x, us.getD (j + (n - 2)) 0 = x := ⟨_, rfl⟩
  obtain ⟨v1, hv1⟩ : ∃ x, vs.getD (n - 1) 0 = x := ⟨_, rfl⟩
  obtain ⟨v2, hv2⟩ : ∃ x, vs.getD (n - 2) 0 = x := ⟨_, rfl⟩
  rw [hu0, hu1, hu2, hv1, hv2] at hE
  rw [hu0] at a0; rw [hu1] at a1; rw [hu2] at a2; rw [hv1] at b1; rw [hv2] at b2
  have HU0 := hid hu0; clear hu0 hu1 hu2 hv1 hv2
  have l0 := hE.out.b0; have l1 := hE.out.b1; have l2 := hE.out.b2; have l3 := hE.out.c1; have l4 := hE.out.c2; have l5 := hE.out.v0
  have dz : ((v1 : Int) == 0) = false := by simp; omega
  have f1 : (0 : Int) ≤ (n : Int) - 1 := by omega
  have f2 : (n : Int) - 1 < (n : Int) + 1 := by omega
  have f3 : (n : Int) - 1 < (n : Int) := by omega
  have f4 : (0 : Int) ≤ (n : Int) - 2 := by omega
  have f5 : (n : Int) - 2 < (n : Int) + 1 := by omega
  have f6 : (n : Int) - 2 < (n : Int) := by omega
  have f7 : (0 : Int) ≤ (n : Int) := by omega
  have f8 : (n : Int) < (n : Int) + 1 := by omega
  have e1 : IntKind.i64.wrap ((n : Int) - 1) = (n : Int) - 1 := IntWalk.i64_in _ (by omega)
  have e2 : IntKind.i64.wrap ((n : Int) - 2) = (n : Int) - 2 := IntWalk.i64_in _ (by omega)
  have e3 : ((n : Int) - 1).toNat = n - 1 := by omega
  have e4 : ((n : Int) - 2).toNat = n - 2 := by omega
  have e5 : IntKind.i64.wrap ((u0 : Int) * 1000000000) = (u0 : Int) * 1000000000 := IntWalk.i64_in _ (by omega)
  have e6 : IntKind.i64.wrap ((u0 : Int) * 1000000000 + u1) = (u0 : Int) * 1000000000 + u1 := IntWalk.i64_in _ (by omega)
  go_enter Tryz.func190, Tryz.ntmps190
  go_wp2_with fail
  go_quiet (fail)
  clear e5 e6
  go_wp2_with fail
  go_quiet (fail)
  go_upto_block 0 with (fail)
  rename_i nq1 nq2
  obtain ⟨V, hV⟩ : ∃ V, val vs = V := ⟨_, rfl⟩
  obtain ⟨U, hU⟩ : ∃ U, val ((us.drop j).take (n + 1)) = U := ⟨_, rfl⟩
  rw [hU, hV] at hE
  have HVU := hid (And.intro hU hV); clear hU hV
  go_cut [7] (fun gg wx => ∃ (G q : Nat), gg = .int .i64 G ∧ wx = w.drewN q ∧ G < 1000000000 ∧ Hid (U / V ≤ G ∧ G * V < U + V))
  case first =>
    go_wp2_with fail
    go_loopw [7, 8] (fun gg rr wr => ∃ G R q : Nat, gg = .int .i64 G ∧ rr = .int .i64 R ∧ wr = w.drewN q ∧ Hid (EstI U V u0 u1 v1 G R)) (fun gg _ _ => (intOf gg).toNat)
    case atStart =>
      exact ⟨_, _, _, by rw [Int.natCast_ediv]; rfl, by rw [Int.natCast_emod]; rfl, by rw [World.drewN_drewN], EstI.start hE.out⟩
    case round =>
      obtain ⟨G, R, q, rfl, rfl, rfl, hI⟩ := hrel
      have g2 := hI.out.g2; have r2 := hI.out.r2
      by_cases hR : R < 1000000000
      · have q1 : decide ((R : Int) < 1000000000) = true := by simp; omega
        by_cases hG : 1000000000 ≤ G
        · have q2 : decide ((1000000000 : Int) ≤ (G : Int)) = true := by simp; omega
          have HN := hid (hI.out.big hE.out hR hG)
          go_wp2_with fail
          go_big_quiet (fail)
          clear q1 q2
          go_wp2_with fail
          go_quiet (fail)
          go_wp2_with fail
          go_roundw
          case rel => exact ⟨G - 1, R + v1, _, by go_num, by go_num, by rw [World.drewN_drewN, World.drewN_drewN], HN⟩
          case measure => simp [intOf] <;> omega
        · have q2 : decide ((1000000000 : Int) ≤ (G : Int)) = false := by simp; omega
          obtain ⟨p, hp⟩ : ∃ p, G * v2 = p := ⟨_, rfl⟩
          have hpb : p ≤ 999999999 * 999999999 := by rw [← hp]; exact Nat.mul_le_mul (by omega) (by omega)
          have HPI := hid (show ((G : Int) * (v2 : Int)) = (p : Int) from by rw [← Int.natCast_mul, hp])
          by_cases hT : R * 1000000000 + u2 < p
          · have q3 : decide ((R : Int) * 1000000000 + u2 < (p : Int)) = true := by simp; omega
            have HN := hid (hI.out.less hE.out hR (by rw [hp]; exact hT))
            have hg0 := HN.out.2
            clear hp hT
            obtain ⟨x5, x6, x7⟩ : IntKind.i64.wrap ((G : Int) * (v2 : Int)) = (p : Int) ∧ IntKind.i64.wrap ((R : Int) * 1000000000) = (R : Int) * 1000000000 ∧ IntKind.i64.wrap ((R : Int) * 1000000000 + u2) = (R : Int) * 1000000000 + u2 := by
              refine ⟨by rw [HPI.out]; exact IntWalk.i64_in _ (by omega), IntWalk.i64_in _ (by omega), IntWalk.i64_in _ (by omega)⟩
            go_wp2_with fail
            go_big_quiet (fail)
            clear q1 q2 q3 x5 x6 x7
            go_wp2_with fail
            go_quiet (fail)
            go_wp2_with fail
            go_roundw
            case rel => exact ⟨G - 1, R + v1, _, by go_num, by go_num, by rw [World.drewN_drewN, World.drewN_drewN], HN.out.1⟩
            case measure => simp [intOf] <;> omega
          · have q3 : decide ((R : Int) * 1000000000 + u2 < (p : Int)) = false := by simp; omega
            have HD := hid (hI.out.done hE.out (.inr ⟨by omega, by rw [hp]; omega⟩))
            have HQ := hid hI.out.q
            clear hp hT
            obtain ⟨x5, x6, x7⟩ : IntKind.i64.wrap ((G : Int) * (v2 : Int)) = (p : Int) ∧ IntKind.i64.wrap ((R : Int) * 1000000000) = (R : Int) * 1000000000 ∧ IntKind.i64.wrap ((R : Int) * 1000000000 + u2) = (R : Int) * 1000000000 + u2 := by
              refine ⟨by rw [HPI.out]; exact IntWalk.i64_in _ (by omega), IntWalk.i64_in _ (by omega), IntWalk.i64_in _ (by omega)⟩
            go_wp2_with fail
            go_big_quiet (fail)
            clear q1 q2 q3 x5 x6 x7
            go_wp2_with fail
            go_meet
            exact ⟨G, _, rfl, by rw [World.drewN_drewN], HD.out.1, HQ.out, HD.out.2⟩
      · have q1 : decide ((R : Int) < 1000000000) = false := by simp; omega
        have HD := hid (hI.out.done hE.out (.inl (by omega)))
        have HQ := hid hI.out.q
        go_wp2_with fail
        go_big_quiet (fail)
        clear q1
        go_wp2_with fail
        go_meet
        exact ⟨G, _, rfl, by rw [World.drewN_drewN], HD.out.1, HQ.out, HD.out.2⟩
  case rest =>
    obtain ⟨G, q, rfl, rfl, hG, hQ⟩ := hcut
    have hE1 := hE
    clear a0 a1 a2 b1 b2 dz f1 f2 f3 f4 f5 f6 f7 f8 e1 e2 e3 e4 hE l0 l1 l2 l3 l4 l5
    go_wp2_with fail
    go_loopw [9, 10, 11, 12] (fun bb ii tt xx wr => ∃ (i c : Nat) (o : List Nat), bb = .int .i64 c ∧ ii = .int .i64 i ∧ i ≤ n ∧ Hid (MsubI us vs j n G i c o) ∧ Hid (Arr .i64 3 wr gu o) ∧ Hid (w.grownBy wr (some gu))) (fun _ ii _ _ _ => n - (intOf ii).toNat)
    case atStart => exact ⟨0, 0, us, rfl, rfl, Nat.zero_le _, MsubI.start HS.out.su, HU.out.drewN q, gb_drewN (World.grownBy.refl w _) q⟩
    case round =>
      obtain ⟨i, c, o, rfl, rfl, hin, hM, hO, hB⟩ := hrel
      have hol := hid hM.out.len
      have hcG := hM.out.c1
      by_cases hlt : i < n
      · have d1 := hO.out.cell (getD_some (l := o) (i := j + i) (by rw [hol.out]; omega))
        have d4 := hO.out.free (j + i)
        have d2 := gb_cell hB.out (CV.out i hlt) hne
        have hvl := HS.out.sv.getD i
        have hul := HS.out.su.getD (j + i)
        rw [getD_drop_eq hM.out.hi] at d1
        obtain ⟨T, M, z, c', hT, hM1, hz, hc', z1, z2, z3, z4, z5, z6, z7, z8⟩ := ref_msub hul hcG hG hvl
        have HN := hid (hM.out.next (by omega) lu z1 z2 z3)
        obtain ⟨ui, hui⟩ : ∃ x, us.getD (j + i) 0 = x := ⟨_, rfl⟩
        obtain ⟨vi, hvi⟩ : ∃ x, vs.getD i 0 = x := ⟨_, rfl⟩
        rw [hui] at d1 hul hT; rw [hvi] at d2 hvl hT
        clear hui hvi z3
        obtain ⟨p, hp⟩ : ∃ p, G * vi = p := ⟨_, rfl⟩
        have hpb : p ≤ 999999999 * 999999999 := by rw [← hp]; exact Nat.mul_le_mul (by omega) (by omega)
        have HPI := hid (show ((G : Int) * (vi : Int)) = (p : Int) from by rw [← Int.natCast_mul, hp])
        rw [hp] at hT
        have HT := hid hT; have HM1 := hid hM1; have HZ := hid hz; have HC := hid hc'
        clear hp hT hM1 hz hc'
        have f1 : (0 : Int) ≤ (i : Int) := by omega
        have f2 : (i : Int) < (n : Int) := by omega
        have f3 : (i : Int) < (n : Int) + 1 := by omega
        obtain ⟨x5, x6, x7⟩ : IntKind.i64.wrap ((G : Int) * (vi : Int)) = (p : Int) ∧ IntKind.i64.wrap ((ui : Int) - c) = (ui : Int) - c ∧ IntKind.i64.wrap ((ui : Int) - c - p) = T := by
          refine ⟨by rw [HPI.out]; exact IntWalk.i64_in _ (by omega), IntWalk.i64_in _ (by omega), by rw [HT.out]; exact IntWalk.i64_in _ (by omega)⟩
        go_wp2_with fail
        go_quiet (fail)
        clear x5 x6 x7
        have y1 := HM1.out; have y2 := HZ.out; have y3 := HC.out
        go_wp2_with fail
        clear y1 y2 y3
        go_roundw
        case rel => exact ⟨i + 1, c', _, by rw [HC.out], by go_num, by omega, HN, (hO.out.drewN _).set (j + i) z, gb_set (gb_drewN hB.out _) _ _⟩
        case measure => simp [intOf] <;> omega
      · obtain rfl : i = n := by omega
        have hg0 := getD_drop_eq hM.out.hi
        have d1 := hO.out.cell (getD_some (l := o) (i := j + i) (by rw [hol.out]; omega))
        have d4 := hO.out.free (j + i)
        rw [hg0, HU0.out] at d1
        have hV0 := hE1.out.pos
        have l0 := hE1.out.b0
        clear hg0
        by_cases hc : c ≤ u0
        · obtain ⟨r1, r2, r3⟩ := hM.out.fits lu HS.out.lv HS.out.sv HVU.out.1 HVU.out.2 HU0.out hQ.out.1 hV0 hc
          have R1 := hid r1; have R3 := hid r3
          subst r2
          clear r1 r3 hc
          go_wp2_with fail
          refine wp_loop_rounds 1 ?_
          rw [rounds_succ]
          go_wp2_with fail
          go_ret
          refine ⟨ret_int (by rw [HVU.out.1, HVU.out.2, ← R1.out]), _, by rw [HVU.out.1, HVU.out.2]; exact R3.out, hO.out.set (j + i) 0, gb_set hB.out _ _⟩
        · obtain ⟨hc1, hadd⟩ := hM.out.lacks lu HS.out.lv HS.out.sv HVU.out.1 HVU.out.2 HU0.out hQ.out.1 hQ.out.2 hV0 (by omega)
          have HADD := hid hadd
          have hsub : ((u0 : Int) - (c : Int)) = -1 := by omega
          have hcb : (c : Int) ≤ 1000000000 := by omega
          have HN := hid (hO.out.setN (j + i) (-1))
          have HG := hid (gb_set hB.out (j + i) (.int .i64 (-1)))
          clear hadd hc hc1
          go_wp2_with fail
          refine wp_loop_rounds 2 ?_
          rw [rounds_succ]
          clear hsub
          obtain ⟨wx, hwx⟩ : ∃ wx, wr.setCell ⟨gu, j + i, none⟩ (.int .i64 (-1)) = wx := ⟨_, rfl⟩
          rw [hwx] at HN HG ⊢
          clear hwx d1 d4
          have k1 := HN.out.self (m := j + i) (by rw [hol.out]; omega)
          go_wp2_with fail
          go_loopw [13, 14, 15] (fun cc ii tt wq => ∃ (y k : Nat) (p : List Nat), cc = .int .i64 k ∧ ii = .int .i64 y ∧ y ≤ i ∧ Hid (AddI o vs j y k p) ∧ Hid (ArrN .i64 3 wq gu p (j + i) (-1)) ∧ Hid (w.grownBy wq (some gu))) (fun _ ii _ _ => i - (intOf ii).toNat)
          case atStart => exact ⟨0, 0, o, rfl, rfl, Nat.zero_le _, AddI.start hM.out.sm, HN, HG⟩
          case round =>
            obtain ⟨y, k, p, rfl, rfl, hyi, hA, hP, hB2⟩ := hrel
            have hpl := hid (show p.length = us.length from by rw [hA.out.len, hol.out])
            by_cases hlt2 : y < i
            · have d1 := hP.out.cell (i := j + y) (by omega) (getD_some (l := p) (i := j + y) (by rw [hpl.out]; omega))
              have d4 := hP.out.free (j + y)
              have d2 := gb_cell hB2.out (CV.out y hlt2) hne
              rw [getD_drop_eq hA.out.hi] at d1
              have HN2 := hid (hA.out.next hM.out.sm HS.out.sv (by rw [hol.out]; omega))
              have hvl := HS.out.sv.getD y
              have hul := hM.out.sm.getD (j + y)
              have hk1 := hA.out.k1
              obtain ⟨ui, hui⟩ : ∃ x, o.getD (j + y) 0 = x := ⟨_, rfl⟩
              obtain ⟨vi, hvi⟩ : ∃ x, vs.getD y 0 = x := ⟨_, rfl⟩
              rw [hui] at d1 hul; rw [hvi] at d2 hvl; rw [hui, hvi] at HN2
              clear hui hvi
              have f1 : (0 : Int) ≤ (y : Int) := by omega
              have f2 : (y : Int) < (i : Int) := by omega
              have f3 : (y : Int) < (i : Int) + 1 := by omega
              have hkI : (k : Int) ≤ 1 := by omega
              obtain ⟨x5, x6⟩ : IntKind.i64.wrap ((ui : Int) + vi) = (ui : Int) + vi ∧ IntKind.i64.wrap ((ui : Int) + vi + k) = (ui : Int) + vi + k := by
                refine ⟨IntWalk.i64_in _ (by omega), IntWalk.i64_in _ (by omega)⟩
              go_wp2_with fail
              go_quiet (fail)
              clear x5 x6
              go_wp2_with fail
              go_roundw
              case rel =>
                have hz : (((ui : Int) + vi + k) % 1000000000) = (((ui + vi + k) % 1000000000 : Nat) : Int) := by omega
                rw [hz]
                exact ⟨y + 1, _, _, by go_num, by go_num, by omega, HN2, (hP.out.drewN _).set (by omega) _, gb_set (gb_drewN hB2.out _) _ _⟩
              case measure => simp [intOf] <;> omega
            · obtain rfl : y = i := by omega
              obtain ⟨r0, r1, r2, r3⟩ := HADD.out k p hA.out
              subst r0
              have R1 := hid r1; have R3 := hid r3
              have k1 := hP.out.self (m := j + y) (by rw [hpl.out]; omega)
              have k2 := hP.out.free (j + y)
              clear r1 r3
              go_wp2_with fail
              rw [rounds_succ]
              go_wp2_with fail
              go_ret
              refine ⟨ret_int (by rw [HVU.out.1, HVU.out.2, R1.out]; omega), _, by rw [HVU.out.1, HVU.out.2]; exact R3.out, hP.out.back 0, gb_set hB2.out _ _⟩
end Go.Proofs.YtgphopkifomffaaGreatDoor
