/- Texts that the proof rests on, merged: L8, L9, L10, Pk1, Q, Tx, QS, Rp2, R2d, R2e, R2f, R2i, QW, R2h, R1q, R1f, R1g, R1h. -/
import Derived.Test.YtccalhlhdiapiaaGreatDoorKp3
import Derived.Deep.RegionHeld3
import Derived.IntWalk
import Derived.RangeFuncBox
import Derived.Scope
import Derived.Deep.DeepCutAuto
import Derived.Deep.CutBlock
namespace Go.Proofs.YtccalhlhdiapiaaGreatDoor
open Go.RowKit Go.Shelf
set_option linter.unusedVariables false
attribute [local go_sem] Oper.semAt_some
set_option maxRecDepth 100000 in
set_option maxHeartbeats 4000000 in
theorem l_small (w : World) (v : Value) (a d : Nat) (ha : IsN .u64 w v a) (hd0 : 0 < d) (hd1 : d < 1000000000) (hla : (limbs a).length ≤ 1000000) :
    Calls Tryz.prog 201 #[v, .int .u64 d] w fun e w' => (∃ v', e = .returned (.tuple #[v', .int .u64 ((a % d : Nat) : Int)]) ∧ IsN .u64 w' v' (a / d)) ∧ Below w.heap.size w w' := by
  obtain ⟨a1, c1, rfl, h1, h2, h3⟩ := ha.openI
  have H3 := hid h3; clear h3 ha
  obtain ⟨n, ea⟩ : ∃ n, (limbs a).length = n := ⟨_, rfl⟩
  rw [ea] at h1 hla ⊢
  have HA := hid ea
  clear ea
  have hmk := fun W => make_nat n (by omega) W
  refine (callsIn_wide (n := 9)).1 ?_
  refine callsIn_of_wp_marks Tryz.func201 rfl trivial ?_ rfl
  simp only [Tryz.ntmps201, List.size_toArray, List.length_cons, List.length_nil, Nat.reduceAdd, Nat.reduceSub, Array.replicate_succ, Array.replicate_zero, List.push_toArray, List.append_toArray, List.nil_append, List.cons_append]
  gi_wp2_with (refine ⟨trivial, ?_⟩; gi_at_call 154; refine (callsIn_wide.2 (back_call _ _ _ _)).mono ?_; rintro e w' ⟨rfl, rfl⟩)
  clear hmk
  obtain ⟨W0, hW0⟩ : ∃ W0, ((((((w.alloc (.cells #[.slice a1 n c1] 119)).alloc (.cells #[.int .u64 d] 147)).alloc (.cells (madeCells #[.int .u64 0] n) 147)).alloc (.cells #[.slice (some ⟨w.heap.size + 1 + 1, 0, none⟩) n n] 119)).alloc (.cells #[.int .u64 0] 147)).alloc (.cells #[.slice a1 n c1] 119)) = W0 := ⟨_, rfl⟩
  have y0 : Blk W0 w.heap.size #[.slice a1 n c1] 119 := by rw [← hW0]; exact (((((Blk.new w _ _).alloc _).alloc _).alloc _).alloc _).alloc _
  have y1 : Blk W0 (w.heap.size + 1) #[.int .u64 d] 147 := by rw [← hW0]; exact ((((Blk.made _ _ _ (by simp)).alloc _).alloc _).alloc _).alloc _
  have y2 : Arr .u64 147 W0 (w.heap.size + 1 + 1) (List.replicate n 0) := by
    rw [← hW0]
    have := Arr.made ((w.alloc (.cells #[.slice a1 n c1] 119)).alloc (.cells #[.int .u64 d] 147)) .u64 147 n
    rw [World.size_alloc, World.size_alloc] at this
    exact (((Blk.alloc this _).alloc _).alloc _)
  have y3 : Blk W0 (w.heap.size + 1 + 1 + 1) #[.slice (some ⟨w.heap.size + 1 + 1, 0, none⟩) n n] 119 := by rw [← hW0]; exact ((Blk.made _ _ _ (by simp)).alloc _).alloc _
  have y4 : Blk W0 (w.heap.size + 1 + 1 + 1 + 1) #[.int .u64 0] 147 := by rw [← hW0]; exact (Blk.made _ _ _ (by simp)).alloc _
  have y5 : Blk W0 (w.heap.size + 1 + 1 + 1 + 1 + 1) #[.slice a1 n c1] 119 := by rw [← hW0]; exact Blk.made _ _ _ (by simp)
  have B0 : Below w.heap.size w W0 := by rw [← hW0]; exact ((((((Below.refl _ _).alloc (Nat.le_refl _) _).alloc (by simp) _).alloc (by simp; omega) _).alloc (by simp; omega) _).alloc (by simp; omega) _).alloc (by simp; omega) _
  have z0 : W0.heap.size = w.heap.size + 6 := by rw [← hW0]; simp
  rw [hW0]
  have Y0 := hid y0; have Y1 := hid y1; have Y2 := hid y2; have Y3 := hid y3; have Y4 := hid y4; have Y5 := hid y5; have HB0 := hid B0; have Z0 := hid z0
  clear y0 y1 y2 y3 y4 y5 B0 z0 hW0
  have hread : ∀ W1 W2, Below W0.heap.size W0 W1 → KpB w.heap.size (w.heap.size + 1 + 1 + 1 + 1 + 1) W1 W2 → W2.cell? ⟨w.heap.size + 1 + 1 + 1 + 1 + 1, 0, none⟩ = some (.slice a1 n c1) ∧ ∀ i, i < n → ∃ g o z, a1 = some ⟨g, o, none⟩ ∧ W2.cell? ⟨g, o + i, none⟩ = some (.int .u64 z) ∧ True := fun W1 W2 b1 b2 => by
    refine ⟨(b2.blk (Y5.out.call b1)).cell 0, fun i hi => ?_⟩
    obtain ⟨x, hx⟩ : ∃ x, (limbs a)[i]? = some x := ⟨_, List.getElem?_eq_getElem (by rw [HA.out]; exact hi)⟩
    obtain ⟨g, o, rfl, hg, hc⟩ := H3.out i x hx
    exact ⟨g, o, _, rfl, (((b2.1.cell (p := ⟨g, o + i, none⟩) hg).trans (b1.cell (p := ⟨g, o + i, none⟩) (by have := Z0.out; simp; omega))).trans (HB0.out.cell (p := ⟨g, o + i, none⟩) hg)).trans hc, trivial⟩
  refine range_ok (by omega) (gf := 194) (lb := #[.pointer (some ⟨w.heap.size + 1 + 1 + 1 + 1 + 1, 0, none⟩)]) rfl (enters_of Tryz.func194 (by kernel_rfl) rfl)
    (back_feeds (Kp := KpB w.heap.size (w.heap.size + 1 + 1 + 1 + 1 + 1)) (V := fun _ _ => True) 8 (by omega) _ n c1 a1 (by omega) h1 W0 (KpB.refl _ _) KpB.trans hread) KpB.trans (KpB.put (by have := Z0.out; omega) (by have := Z0.out; omega)) (Below.refl _ _) (fun _ => rfl)
    (fun pre W => (∃ (r : Nat) (o : List Nat), SmallI a d (n - pre.length) r o ∧ Arr .u64 147 W (w.heap.size + 1 + 1) o ∧ Blk W (w.heap.size + 1 + 1 + 1 + 1) #[.int .u64 r] 147 ∧ Blk W (w.heap.size + 1 + 1 + 1) #[.slice (some ⟨w.heap.size + 1 + 1, 0, none⟩) n n] 119) ∧ Below (w.heap.size + 2) W0 W)
    (fun c pre W => False)
    (OwnFrom.and (fun s A B row hs hg hr => by
      obtain ⟨r, o, h1, h2, h3, h4⟩ := hs
      exact ⟨r, o, h1, Blk.kept h2 hg (fun r e => (hr r e).2), h3.kept hg (fun r e => (hr r e).2), h4.kept hg (fun r e => (hr r e).2)⟩) (ownFrom_below (by have := Z0.out; omega) (by have := Z0.out; omega)))
    (fun c s A B row hs hg hr => hs)
    ⟨⟨0, _, by have := SmallI.start (a := a) hd0; rw [HA.out] at this; simpa using this, Y2.out, Y4.out, Y3.out⟩, Below.refl _ _⟩ ?act ?assign ?body ?done ?stop
  case assign =>
    intro l x W K hK
    gi_wp2
    exact hK
  case body =>
    rintro l pre ⟨j, z⟩ W ⟨hj, -⟩ ⟨⟨r, o, hS, hO, hR, hU⟩, hB⟩
    dsimp only at hj
    rw [show n - pre.length = j + 1 by omega] at hS
    obtain ⟨x, hx⟩ : ∃ x, (limbs a)[j]? = some x := ⟨_, List.getElem?_eq_getElem (by rw [HA.out]; omega)⟩
    obtain ⟨g, og, rfl, hg, hc⟩ := H3.out j x hx
    have hol : o.length = n := by rw [hS.len, HA.out]
    obtain ⟨z0, hz0⟩ : ∃ z, o[j]? = some z := ⟨_, List.getElem?_eq_getElem (by omega)⟩
    have d1 := ((hB.cell (p := ⟨g, og + j, none⟩) (by simp; omega)).trans (HB0.out.cell (p := ⟨g, og + j, none⟩) hg)).trans hc
    have b0 := (Y0.out.below hB (by omega)).cell 0
    have b1 := (Y1.out.below hB (by omega)).cell 0
    have b3 := hU.cell 0
    have b4 := hR.cell 0
    have b5 := hR.free 0
    have d3 := hO.cell hz0
    have d4 := hO.free j
    simp only [List.getElem?_toArray, List.getElem?_cons_zero] at b0 b1 b3 b4
    have HN := hid (hS.next hx)
    have hxl := (sm_limbs a).get hx
    have hrl := hS.rd
    have dz : ((d : Int) == 0) = false := by simp; omega
    have HX := hid hx; have HBB := hid hB; have HJ := hid hj; have HO := hid hO; have HR := hid hR; have HU := hid hU
    clear hx hc hB hj hz0 hol hS hO hR hU
    have f1 : (0 : Int) ≤ (j : Int) := by omega
    have f2 : (j : Int) < (n : Int) := by have := HJ.out; omega
    have e5 : IntKind.u64.wrap ((r : Int) * 1000000000) = (r : Int) * 1000000000 := IntWalk.u64_in _ (by omega)
    have e6 : IntKind.u64.wrap ((r : Int) * 1000000000 + x) = (r : Int) * 1000000000 + x := IntWalk.u64_in _ (by omega)
    gi_wp2
    refine quiet_round (by kernel_rfl) (by kernel_rfl) (by kernel_rfl) ?_
    repeat (gi_big_quiet_step (fail))
    refine wpQuietIn_nil ?_
    intro _ hw'
    obtain ⟨nq, rfl⟩ := hw'
    clear e5 e6
    gi_wp2
    obtain ⟨V, hV⟩ : ∃ V, W.drewN nq = V := ⟨_, rfl⟩
    have v1 : V.cell? ⟨w.heap.size + 1, 0, none⟩ = some (.int .u64 (d : Int)) := by rw [← hV]; exact b1
    have v3 : V.cell? ⟨w.heap.size + 1 + 1 + 1, 0, none⟩ = some (.slice (some ⟨w.heap.size + 1 + 1, 0, none⟩) n n) := by rw [← hV]; exact b3
    rw [hV]
    obtain ⟨qv, hqv⟩ : ∃ q, (r * 1000000000 + x) / d = q := ⟨_, rfl⟩
    obtain ⟨mv, hmv⟩ : ∃ m, (r * 1000000000 + x) % d = m := ⟨_, rfl⟩
    rw [hqv, hmv] at HN
    have dz2 : ¬ d = 0 := by omega
    have e7 : IntKind.u64.wrap (((r : Int) * 1000000000 + x).tdiv d) = (qv : Int) := by
      rw [IntWalk.u64_quo _ _ (by omega), ← hqv, Int.natCast_ediv]; rfl
    have e8 : ((r : Int) * 1000000000 + x).tmod d = (mv : Int) := by
      rw [IntWalk.rem_in _ _ (by omega), ← hmv, Int.natCast_emod]; rfl
    have v4 : V.cell? ⟨w.heap.size + 1 + 1 + 1 + 1, 0, none⟩ = some (.int .u64 (r : Int)) := by rw [← hV]; exact b4
    have v5 : V.frozen? ⟨w.heap.size + 1 + 1 + 1 + 1, 0, none⟩ = false := by rw [← hV]; exact b5
    have v6 : V.cell? ⟨w.heap.size + 1 + 1, j, none⟩ = some (.int .u64 (z0 : Int)) := by rw [← hV]; exact d3
    have v7 : V.frozen? ⟨w.heap.size + 1 + 1, j, none⟩ = false := by rw [← hV]; exact d4
    have HVB := hid (show Below (w.heap.size + 2) W0 V from by rw [← hV]; exact below_drewN HBB.out nq)
    have HVW := hid (show KpB w.heap.size (w.heap.size + 1 + 1 + 1 + 1 + 1) W V ∧ KeepsFrom W0.heap.size W V from by rw [← hV]; exact ⟨⟨below_drewN (Below.refl _ _) _, rfl⟩, Nat.le_refl _, fun _ _ _ h _ => h⟩)
    have HVO := hid (show Arr .u64 147 V (w.heap.size + 1 + 1) o from by rw [← hV]; exact HO.out)
    have HVR := hid (show Blk V (w.heap.size + 1 + 1 + 1 + 1) #[.int .u64 r] 147 from by rw [← hV]; exact HR.out)
    have HV1 := hid (show Blk V (w.heap.size + 1) #[.int .u64 d] 147 from by rw [← hV]; exact Blk.drewN (Blk.below (B := w.heap.size + 2) Y1.out HBB.out (by omega)) nq)
    have HVU := hid (show Blk V (w.heap.size + 1 + 1 + 1) #[.slice (some ⟨w.heap.size + 1 + 1, 0, none⟩) n n] 119 from by rw [← hV]; exact HU.out)
    clear hV d1 b0 b1 b3 b4 b5 d3 d4 hqv hmv HBB HO HR HU
    refine held_round_lex 9 (fun W' => W'.cell? ⟨w.heap.size + 1, 0, none⟩ = some (.int .u64 (d : Int)) ∧ W'.cell? ⟨w.heap.size + 1 + 1 + 1, 0, none⟩ = some (.slice (some ⟨w.heap.size + 1 + 1, 0, none⟩) n n)) (by kernel_rfl) (by kernel_rfl) (by kernel_rfl) rfl (by kernel_rfl) ⟨v1, v3⟩ ?_
    simp only [List.take_succ_cons, List.take_zero]
    iterate 9
      apply Exists.intro
      refine ⟨.inl ⟨by rfl, ?_⟩, ?_⟩
      · (intro W' hW'
         obtain ⟨q1, q2⟩ := hW'
         go_simp
         try (with_reducible rfl))
      simp only [Act.put, List.setIfInBounds_toArray, List.set_cons_zero, List.set_cons_succ]
    clear e7 e8
    refine held_one (i := 9) (by kernel_rfl) (by rfl) (by rfl) ?_
    go_wp2
    have u1 : Arr .u64 147 (V.setCell ⟨w.heap.size + 1 + 1, j, none⟩ (.int .u64 (qv : Int))) (w.heap.size + 1 + 1) (o.set j qv) := HVO.out.set j qv
    have u2 := Blk.other (a := ⟨w.heap.size + 1 + 1, j, none⟩) HVR.out (by simp <;> omega) (.int .u64 (qv : Int))
    have u3 := Blk.other (a := ⟨w.heap.size + 1 + 1, j, none⟩) HVU.out (by simp <;> omega) (.int .u64 (qv : Int))
    have u4 := Blk.other (a := ⟨w.heap.size + 1 + 1, j, none⟩) HV1.out (by simp <;> omega) (.int .u64 (qv : Int))
    obtain ⟨V1, hV1⟩ : ∃ V1, (V.setCell ⟨w.heap.size + 1 + 1, j, none⟩ (.int .u64 (qv : Int))).drew = V1 := ⟨_, rfl⟩
    have c2 : V1.cell? ⟨w.heap.size + 1 + 1 + 1 + 1, 0, none⟩ = some (.int .u64 (r : Int)) := by rw [← hV1]; exact u2.cell 0
    have c2' : V1.frozen? ⟨w.heap.size + 1 + 1 + 1 + 1, 0, none⟩ = false := by rw [← hV1]; exact u2.free 0
    have c3 : V1.cell? ⟨w.heap.size + 1 + 1 + 1, 0, none⟩ = some (.slice (some ⟨w.heap.size + 1 + 1, 0, none⟩) n n) := by rw [← hV1]; exact u3.cell 0
    have c4 : V1.cell? ⟨w.heap.size + 1, 0, none⟩ = some (.int .u64 (d : Int)) := by rw [← hV1]; exact u4.cell 0
    have U1 : Hid (Arr .u64 147 V1 (w.heap.size + 1 + 1) (o.set j qv)) := by rw [← hV1]; exact u1
    have U2 : Hid (Blk V1 (w.heap.size + 1 + 1 + 1 + 1) #[.int .u64 r] 147) := by rw [← hV1]; exact u2
    have U3 : Hid (Blk V1 (w.heap.size + 1 + 1 + 1) #[.slice (some ⟨w.heap.size + 1 + 1, 0, none⟩) n n] 119) := by rw [← hV1]; exact u3
    have HB1 := hid (show Below (w.heap.size + 2) W0 V1 from by rw [← hV1]; exact (HVB.out.setCell (by simp <;> omega) _).drew)
    have HW1 := hid (show KpB w.heap.size (w.heap.size + 1 + 1 + 1 + 1 + 1) W V1 ∧ KeepsFrom W0.heap.size W V1 from by
      rw [← hV1]
      refine ⟨⟨(HVW.out.1.1.setCell (by simp <;> omega) _).drew, ?_⟩, HVW.out.2.trans (((KeepsOthers.setCell V _ _).trans (KeepsOthers.drew _)).from _)⟩
      exact (Below.heap_setCell _ _ _ _ (by simp <;> omega)).trans HVW.out.1.2)
    rw [hV1]
    clear hV1 u1 u2 u3 u4 v1 v3 v4 v5 v6 v7
    refine ⟨⟨c4, c3⟩, held_one (i := 10) (by kernel_rfl) (by rfl) (by rfl) ?_⟩
    go_wp2
    have w3 := Blk.other (a := ⟨w.heap.size + 1 + 1 + 1 + 1, 0, none⟩) U3.out (by simp <;> omega) (.int .u64 (mv : Int))
    have w1 := Blk.other (a := ⟨w.heap.size + 1 + 1 + 1 + 1, 0, none⟩) U1.out (by simp <;> omega) (.int .u64 (mv : Int))
    have w2 := U2.out.set 0 (.int .u64 (mv : Int))
    refine ⟨⟨?_, w3.cell 0⟩, wpAnyH_done (by kernel_rfl) ?_ _⟩
    · rw [World.cell?_setCell_other _ _ _ _ (by simp <;> omega)]; exact c4
    simp only [Only]
    gi_wp2
    refine ⟨HW1.out.2.trans ((KeepsOthers.setCell _ _ _).from _), ⟨(HW1.out.1.1).setCell (by simp <;> omega) _, ?_⟩, ⟨mv, o.set j qv, ?_, w1, w2, w3⟩, HB1.out.setCell (by simp <;> omega) _⟩
    · rw [Below.heap_setCell _ _ _ _ (by simp <;> omega)]
      exact HW1.out.1.2
    · rw [List.length_append, List.length_singleton, show n - (pre.length + 1) = j by have := HJ.out; omega]
      exact HN.out
  case done =>
    rintro D xs W hD hx ⟨⟨r, o, hS, hO, hR, hU⟩, hB⟩ hK
    rw [hx, Nat.sub_self] at hS
    have hv := hS.done
    have hol : o.length = n := by rw [hS.len, HA.out]
    have hr : Row W (.slice (some ⟨w.heap.size + 1 + 1, 0, none⟩) n n) (ints .u64 o) := by
      have := Arr.row (n := n) (c := n) hO (by omega) (Nat.le_refl _) (by unfold maxLen; omega)
      rwa [List.take_of_length_le (by omega)] at this
    have b3 := hU.cell 0
    have b4 := hR.cell 0
    simp only [List.getElem?_toArray, List.getElem?_cons_zero] at b3 b4
    have HL := hid hol; have HV := hid hv; have HR := hid hr; have HS := hid hS.sm; have HB := hid hB; have HK := hid hK
    clear hx hS hO hR hU hB hK hv hol hr
    gi_wp2
    refine wpIn_region_quiet_lit rfl (by kernel_rfl) (by kernel_rfl) ?_
    repeat (gi_big_quiet_step (fail))
    refine wpQuietIn_step (fun _ _ f hf => trivial) (fun K2 hK2 => ?_)
    go_simp
    have htr : ∀ q, CallsIn Fence.wide 8 Tryz.prog 158 #[.slice (some ⟨w.heap.size + 1 + 1, 0, none⟩) n n] (W.drewN q) fun e w'' => e = .returned (.slice (some ⟨w.heap.size + 1 + 1, 0, none⟩) (limbs (a / d)).length n) ∧ ∃ m, w'' = W.drewN m := fun q => by
      have := l_trim_to (W.drewN q) (some ⟨w.heap.size + 1 + 1, 0, none⟩) n o HS.out (by rw [HL.out]; exact HR.out.drewN q)
      rw [HV.out.1, HL.out] at this
      exact CallsIn.quiet_of_same (callsIn_wide.2 this)
    refine ⟨_, htr, hK2 _ ?_⟩
    clear hK2 K2 htr
    repeat (gi_big_quiet_step (fail))
    refine wpQuietIn_nil ?_
    intro _ hw'
    obtain ⟨nq, rfl⟩ := hw'
    gi_wp2
    have hK3 : (W.drewN nq).heap[D]? = some (.deferred (some [])) := HK.out
    refine marks_end hK3 (v := .tuple #[.slice (some ⟨w.heap.size + 1 + 1, 0, none⟩) (limbs (a / d)).length n, .int .u64 (r : Int)]) (by simp [results, Tryz.results201, go_sem]) ⟨⟨_, by rw [← HV.out.2], ?_⟩, ?_⟩
    · have h1 := trim_isN HS.out (show Row W (.slice (some ⟨w.heap.size + 1 + 1, 0, none⟩) o.length n) (ints .u64 o) by rw [HL.out]; exact HR.out)
      rw [HV.out.1] at h1
      exact IsN.put (W := W.drewN nq) (Row.drewN h1 nq) hK3 _
    · exact (below_drewN (HB0.out.trans (HB.out.mono (by omega))) nq).trans (belowK_b (w := w) (Nat.le_refl _) _ D _ _ (by have := Z0.out; omega) hK3 rfl rfl)
  case stop =>
    rintro D c pre W hD - h
    exact h.elim
end Go.Proofs.YtccalhlhdiapiaaGreatDoor
namespace Go.Proofs.YtccalhlhdiapiaaGreatDoor
open Go.RowKit Go.Shelf
set_option linter.unusedVariables false
attribute [local go_sem] Oper.semAt_some
theorem l_divmod_less (w : World) (v u : Value) (a b : Nat) (ha : IsN .u64 w v a) (hb : IsN .u64 w u b) (hlt : a < b) (hla : (limbs a).length ≤ 1000000) :
    Calls Tryz.prog 165 #[v, u] w fun e w' => RetNN .u64 (a / b) (a % b) e w' ∧ Below w.heap.size w w' := by
  have HA := hid ha; have HB := hid hb; have HL := hid (ordN_lt hlt); have HQ := hid (Nat.div_eq_of_lt hlt); have HR := hid (Nat.mod_eq_of_lt hlt); have HLA := hid hla
  obtain ⟨a1, c1, rfl, _⟩ := ha.openI
  obtain ⟨a2, c2, rfl, _⟩ := hb.openI
  clear ha hb hlt hla
  go_enter Tryz.func165, Tryz.ntmps165
  go_wp2_with fail
  refine (l_Cmp _ _ _ a b HA.out HB.out HLA.out).mono ?_; rintro e w1 ⟨rfl, hb1⟩
  have B1 := hid hb1; clear hb1
  rw [HL.out]
  go_wp2_with fail
  go_ret2
  exact ⟨⟨_, _, rfl, by rw [HQ.out]; exact IsN.zero _ _, by rw [HR.out]; exact HA.out.call B1.out⟩, B1.out⟩
theorem ordN_ge {a b : Nat} (h : b ≤ a) : ordN a b = 0 ∨ ordN a b = 1 := by
  unfold ordN; split
  · omega
  · split <;> simp
set_option maxRecDepth 100000 in
set_option maxHeartbeats 2000000 in
theorem l_divmod_one (w : World) (v u : Value) (a b : Nat) (ha : IsN .u64 w v a) (hb : IsN .u64 w u b) (hle : b ≤ a) (h0 : 0 < b) (h1 : b < 1000000000) (hla : (limbs a).length ≤ 1000000) :
    Calls Tryz.prog 165 #[v, u] w fun e w' => RetNN .u64 (a / b) (a % b) e w' ∧ Below w.heap.size w w' := by
  have HA := hid ha; have HB := hid hb; have HLA := hid hla
  have hord := ordN_ge hle
  obtain ⟨a1, c1, rfl, h1', _⟩ := ha.openI
  obtain ⟨a2, c2, rfl, h2', h3', h4'⟩ := hb.openI
  have hl1 : limbs b = [b] := limbs_small h0 h1
  obtain ⟨g, o, rfl, hg, hc⟩ := h4' 0 b (by rw [hl1]; rfl)
  rw [Nat.add_zero] at hc
  have HC := hid hc
  have hlen : (limbs b).length = 1 := by rw [hl1]; rfl
  rw [hlen] at HB h2' ⊢
  clear ha hb hc h4' hl1 hlen hla
  go_enter Tryz.func165, Tryz.ntmps165
  go_wp2_with fail
  refine (l_Cmp _ _ _ a b HA.out HB.out HLA.out).mono ?_; rintro e w1 ⟨rfl, hb1⟩
  have d1 := (hb1.cell (p := ⟨g, o, none⟩) hg).trans HC.out
  have B1 := hid hb1; clear hb1
  obtain ⟨t, ht⟩ : ∃ t, ordN a b = t := ⟨_, rfl⟩
  rw [ht] at hord ⊢
  have q0 : decide (t < 0) = false := by simp; omega
  clear ht hord
  go_wp2_with fail
  refine (l_small _ _ a b (HA.out.call B1.out) h0 h1 HLA.out).mono ?_; rintro e w2 ⟨⟨v2, rfl, hv2⟩, hb2⟩
  have B2 := hid hb2; have V2 := hid hv2; clear hb2 hv2
  have hrb := hid (show a % b < 18446744073709551616 from Nat.lt_trans (Nat.mod_lt a h0) (by omega))
  go_wp2_with fail
  refine (l_Of _ (a % b) hrb.out).mono ?_
  rintro e w3 ⟨⟨v3, rfl, hv3⟩, hb3⟩
  have V3 := hid hv3; have B3 := hid hb3; clear hv3 hb3
  go_wp2_with fail
  go_ret2
  exact ⟨⟨_, _, rfl, V2.out.call B3.out, V3.out⟩, bnext (bnext B1.out B2.out) B3.out⟩
def KpQ (bs g K : Nat) (W W2 : World) : Prop := W2.heap[bs]? = W.heap[bs]? ∧ ((∃ Q, Arr .u64 147 W g Q ∧ Q.length = K) → ∃ Q, Arr .u64 147 W2 g Q ∧ Q.length = K)
theorem KpQ.refl (bs g K : Nat) (W : World) : KpQ bs g K W W := ⟨rfl, fun h => h⟩
theorem KpQ.trans {bs g K : Nat} {A B C : World} (h : KpQ bs g K A B) (k : KpQ bs g K B C) : KpQ bs g K A C := ⟨k.1.trans h.1, fun x => k.2 (h.2 x)⟩
theorem KpQ.put {bs g K : Nat} {w : World} (hb : bs < w.heap.size) (W : World) (l : Nat) (o o' : Obj) (hl : w.heap.size ≤ l) (h : W.heap[l]? = some o) (h1 : o.isCells = false) (h2 : o.isWalk = false) : KpQ bs g K W (W.putObj l o') :=
  ⟨World.putObj_heap_other (by omega), fun ⟨Q, hq, hq2⟩ => ⟨Q, Blk.kept hq (grownBy_putObj' W l o') (fun r e => by cases e; exact ⟨_, h, h1⟩), hq2⟩⟩
theorem top_zero {a b d A m : Nat} (hA : (limbs (a * d)).length = A) (hm : m ≤ A + 1) (h0 : 0 < m) (hb : 1000000000 ^ (m - 1) ≤ b) (hd : 0 < d) : val ((limbs (a * d) ++ [0]).drop (A + 1 - m)) < b * d := by
  rw [List.drop_append_of_le_length (by omega), val_append]
  have h1 := val_lt ((sm_limbs (a * d)).drop (A + 1 - m))
  rw [List.length_drop, hA, show A - (A + 1 - m) = m - 1 by omega] at h1
  simp only [val_cons, val_nil]
  have h2 : b ≤ b * d := Nat.le_mul_of_pos_right b hd
  omega
theorem own_nextA {k : IntKind} {w wr w3 : World} {t : TypeId} {v v3 : Value} {s : List Nat} {z A : Nat} {o : Obj} (hl : s.length = A) (hO : wr.ownsRow w.heap.size t 1 v A (ints k s)) (hB : Below w.heap.size w wr)
    (h3 : w3.ownsRow w.heap.size t 1 v3 (A + 1) (ints k s ++ [.int k (z : Int)])) (hg : (wr.alloc o).grownBy w3 v.ownBlock) :
    w3.ownsRow w.heap.size t 1 v3 (s ++ [z]).length (ints k (s ++ [z])) ∧ Below w.heap.size w w3 := by
  subst hl
  exact own_next hO hB h3 hg
theorem mul_lim {a d L : Nat} (hL : (limbs a).length = L) (hd : d < 1000000000) : a * d < 1000000000 ^ (L + 1) := by
  have h := limbs_length_le.1 (Nat.le_of_eq hL)
  rw [Nat.pow_succ]
  exact Nat.lt_of_le_of_lt (Nat.mul_le_mul_left a (Nat.le_of_lt hd)) (Nat.mul_lt_mul_of_pos_right h (by omega))
set_option maxRecDepth 100000 in
set_option maxHeartbeats 8000000 in
theorem l_divmod_many (w : World) (v u : Value) (a b m : Nat) (ha : IsN .u64 w v a) (hb : IsN .u64 w u b) (hle : b ≤ a) (hn : (limbs b).length = m) (hm2 : 2 ≤ m) (hla : (limbs a).length ≤ 1000000) :
    Calls Tryz.prog 165 #[v, u] w fun e w' => RetNN .u64 (a / b) (a % b) e w' ∧ Below w.heap.size w w' := by
  obtain ⟨i0, hi, hz0, hz1, hz2⟩ := info_parts info_u64
  have HA := hid ha; have HB := hid hb
  have hord := ordN_ge hle
  have hmn := limbs_length_mono hle
  obtain ⟨a1, c1, rfl, h1', _⟩ := ha.openI
  obtain ⟨a2, c2, rfl, h2', h3', h4'⟩ := hb.openI
  obtain ⟨x, hx⟩ : ∃ x, (limbs b)[m - 1]? = some x := ⟨_, List.getElem?_eq_getElem (by omega)⟩
  obtain ⟨g, o, rfl, hg, hc⟩ := h4' (m - 1) x hx
  have HC := hid hc
  have hn1 : (limbs b).length = (m - 1) + 1 := by omega
  obtain ⟨s1, s2, s3⟩ := scale_len hn1 hx
  obtain ⟨t1, t2, _⟩ := top_limb hn1 hx
  obtain ⟨d, hd⟩ : ∃ d, 1000000000 / (x + 1) = d := ⟨_, rfl⟩
  rw [hd] at s1 s2 s3
  have HS := hid (show (limbs (b * d)).length = m by omega)
  have hdI := hid (show ((1000000000 : Int) / ((x : Int) + 1)) = (d : Int) from by rw [← hd]; rfl)
  rw [hn] at h2' hmn ⊢
  obtain ⟨L, hL⟩ : ∃ L, (limbs a).length = L := ⟨_, rfl⟩
  rw [hL] at hmn h1' ⊢
  have hla' : L ≤ 1000000 := by omega
  have hL' := hL; have HL := hid hL; have HN := hid hn; have HLA := hid hla; have HLE := hid hle
  rw [hL] at HA; rw [hn] at HB
  clear ha hb hc h4' hx hd s1 hL hn hla hle hn1
  refine (callsIn_wide (n := 9)).1 ?_
  refine callsIn_of_wp_marks Tryz.func165 rfl trivial ?_ rfl
  simp only [Tryz.ntmps165, List.size_toArray, List.length_cons, List.length_nil, Nat.reduceAdd, Nat.reduceSub, Array.replicate_succ, Array.replicate_zero, List.push_toArray, List.append_toArray, List.nil_append, List.cons_append]
  gi_wp2_with fail
  refine ⟨trivial, (callsIn_wide.2 (l_Cmp _ _ _ a b HA.out HB.out HLA.out)).mono ?_⟩; rintro e w1 ⟨rfl, hb1⟩
  have d1 := (hb1.cell (p := ⟨g, o + (m - 1), none⟩) hg).trans HC.out
  have B1 := hid hb1; clear hb1
  obtain ⟨t, ht⟩ : ∃ t, ordN a b = t := ⟨_, rfl⟩
  rw [ht] at hord ⊢
  have q0 : decide (t < 0) = false := by simp; omega
  clear ht hord
  have q1 : ((m : Int) == 1) = false := by simp; omega
  gi_wp2_with fail
  clear q1
  rw [hdI.out]
  obtain ⟨W1, hW1⟩ : ∃ W1, w1.alloc (.cells #[.int .u64 (d : Int)] 147) = W1 := ⟨_, rfl⟩
  have BW1 := hid (show Below w.heap.size w W1 from by rw [← hW1]; exact B1.out.alloc B1.out.size _)
  have SB := hid (show Blk W1 w1.heap.size #[.int .u64 (d : Int)] 147 from by rw [← hW1]; exact Blk.new _ _ _)
  have hsz := hid (show w1.heap.size < W1.heap.size from SB.out.lt)
  have SC := hid (show IsN .u64 W1 (.slice (some ⟨w1.heap.size, 0, none⟩) 1 1) d from by
    unfold IsN
    rw [limbs_small s2 s3]
    exact Row.of_blk (n := 1) (c := 1) SB.out rfl (by unfold maxLen; omega) (fun i x hx => by simpa [ints] using hx) (Nat.le_refl _) (by unfold maxLen; omega))
  have SL := hid (show (limbs d).length ≤ 1000000 from by rw [limbs_small s2 s3]; simp)
  rw [hW1]
  clear hW1 d1
  refine ⟨trivial, (callsIn_wide.2 (l_Mul_own W1 _ _ a d (HA.out.call BW1.out) SC.out HLA.out SL.out)).mono ?_⟩; rintro e w2 ⟨⟨vm, rfl, hown⟩, hb2⟩
  obtain ⟨A, hA⟩ : ∃ A, (limbs (a * d)).length = A := ⟨_, rfl⟩
  have hAL : L ≤ A := by rw [← hL', ← hA]; exact limbs_length_mono (Nat.le_mul_of_pos_right a s2)
  have hAU : A ≤ L + 1 := by rw [← hA]; exact limbs_length_le.2 (mul_lim hL' s3)
  have HAD := hid hA
  rw [hA] at hown
  have O2 := hid hown; have B2 := hid hb2
  obtain ⟨am, cm, rfl⟩ := owns_ex hown
  clear hown hb2 hA
  gi_wp2_with (gi_at_builtin; refine wpListIn_append_own _ rfl _ _ 119 rfl W1.heap.size 147 i0 (.int .u64 0) 1 8 Tryz.underlying119 hi hz0 hz1 hz2 rfl (by decide) _ A _ rfl (O2.out.alloc _) ⟨w2.heap.size, 0, none⟩ 1 1 [.int .u64 0] rfl rfl (cell_one_new w2 (.int .u64 0) 147) (by simp [Value.oneCell']) (by unfold maxLen; omega) (by omega) (by have := B2.out.size; simp; omega) ?_; intro v' w3 hown3 hgrow3 _; have HO3 := hid hown3; have HG3 := hid hgrow3; clear hown3 hgrow3)
  obtain ⟨n1, n2⟩ := own_nextA (w := W1) (v := .slice am A cm) (s := limbs (a * d)) (z := 0) HAD.out O2.out B2.out HO3.out HG3.out
  obtain ⟨us, hus⟩ : ∃ us, limbs (a * d) ++ [0] = us := ⟨_, rfl⟩
  rw [hus] at n1
  have hul : us.length = A + 1 := by rw [← hus, List.length_append, HAD.out]; rfl
  obtain ⟨gu, cu, rfl, hgu, hcu, hcum, hPU⟩ := ArrP.of_owns n1 (by omega)
  have HUS := hid hus; have HUL := hid hul; have PU3 := hid hPU; have BW3 := hid (show Below W1.heap.size W1 w3 from n2); have BX3 := hid (bnext BW1.out n2)
  have hgul := hPU.lt
  rw [hul]
  rw [hul] at hcu
  clear n1 n2 hus hul hPU O2 HO3 HG3
  refine ⟨trivial, (callsIn_wide.2 (l_Mul_own w3 _ _ b d (HB.out.call BX3.out) (SC.out.call BW3.out) (by rw [HN.out]; omega) SL.out)).mono ?_⟩; rintro e w4 ⟨⟨vv, rfl, hvv⟩, hb4⟩
  obtain ⟨gv, cv, rfl, hgv, hcv, hcvm, hPV⟩ := ArrP.of_owns hvv (by rw [HS.out]; omega)
  have B4 := hid hb4; have BX4 := hid (bnext BX3.out hb4); have PV4 := hid hPV
  have hgvl := hPV.lt
  rw [HS.out] at hcv ⊢
  clear hvv hb4 hPV
  have qL : decide (A + 1 ≤ L) = false := by simp; omega
  gi_wp2_with fail
  obtain ⟨W5, hW5⟩ : ∃ W5, (w4.alloc (.cells #[.slice (some ⟨gu, 0, none⟩) (A + 1) cu] 119)).alloc (.cells #[.slice (some ⟨gv, 0, none⟩) m cv] 119) = W5 := ⟨_, rfl⟩
  have y9 : Blk W5 w4.heap.size #[.slice (some ⟨gu, 0, none⟩) (A + 1) cu] 119 := by rw [← hW5]; exact (Blk.new w4 _ _).alloc _
  have y10 : Blk W5 (w4.heap.size + 1) #[.slice (some ⟨gv, 0, none⟩) m cv] 119 := by rw [← hW5]; exact Blk.made _ _ _ (by simp)
  have B5 : Below w4.heap.size w4 W5 := by rw [← hW5]; exact ((Below.refl _ _).alloc (Nat.le_refl _) _).alloc (by simp) _
  have z5 : W5.heap.size = w4.heap.size + 2 := by rw [← hW5]; simp
  have b9 := y9.cell 0
  have b10 := y10.cell 0
  simp only [List.getElem?_toArray, List.getElem?_cons_zero] at b9 b10
  have l9 : w4.heap.size < W5.heap.size := by omega
  have l10 : w4.heap.size + 1 < W5.heap.size := by omega
  have Y9 := hid y9; have Y10 := hid y10; have HB5 := hid B5; have Z5 := hid z5
  obtain ⟨K, hK⟩ : ∃ K, K = A + 1 - m := ⟨_, rfl⟩
  have hKI : ((A : Int) + 1 - (m : Int)) = (K : Int) := by omega
  have hKL : K + m = A + 1 := by omega
  have hmk := fun W => make_nat K (by omega) W
  rw [hW5]
  clear hW5 y9 y10 B5 z5 hK
  gi_loopw [52] (fun _ wr => wr = W5) (fun _ _ => 0)
  case atStart => rfl
  case round =>
    obtain rfl := hrel
    gi_wp2_with fail
    have HMN := hid hmn
    refine ⟨trivial, (callsIn_wide.2 (back_call _ _ _ _)).mono ?_⟩; rintro e w' ⟨rfl, rfl⟩
    gi_wp2_with fail
    obtain ⟨W0, hW0⟩ : ∃ W0, (((wr.alloc (.cells #[.int .i64 m] 3)).alloc (.cells (madeCells #[.int .u64 0] K) 147)).alloc (.cells #[.slice (some ⟨wr.heap.size + 1, 0, none⟩) K K] 119)).alloc (.cells #[.slice (some ⟨wr.heap.size + 1, 0, none⟩) K K] 119) = W0 := ⟨_, rfl⟩
    have y11 : Blk W0 wr.heap.size #[.int .i64 m] 3 := by rw [← hW0]; exact (((Blk.new wr _ _).alloc _).alloc _).alloc _
    have y12 : Blk W0 (wr.heap.size + 1 + 1) #[.slice (some ⟨wr.heap.size + 1, 0, none⟩) K K] 119 := by rw [← hW0]; exact (Blk.made _ _ _ (by simp)).alloc _
    have y13 : Blk W0 (wr.heap.size + 1 + 1 + 1) #[.slice (some ⟨wr.heap.size + 1, 0, none⟩) K K] 119 := by rw [← hW0]; exact Blk.made _ _ _ (by simp)
    have yq : Arr .u64 147 W0 (wr.heap.size + 1) (List.replicate K 0) := by
      rw [← hW0]
      have := Arr.made (wr.alloc (.cells #[.int .i64 m] 3)) .u64 147 K
      rw [World.size_alloc] at this
      exact (Blk.alloc this _).alloc _
    have B0 : Below wr.heap.size wr W0 := by rw [← hW0]; exact ((((Below.refl _ _).alloc (Nat.le_refl _) _).alloc (by simp) _).alloc (by simp; omega) _).alloc (by simp; omega) _
    have z0 : W0.heap.size = wr.heap.size + 4 := by rw [← hW0]; simp
    have BX0 := hid (bnext (bnext BX4.out HB5.out) B0)
    have PU0 := hid (((PU3.out.call B4.out).call HB5.out).call B0)
    have V0 := hid ((PV4.out.call HB5.out).call B0)
    have S0 := hid ((((SB.out.call BW3.out).call B4.out).call HB5.out).call B0)
    have Y9' := hid (Y9.out.call B0); have Y10' := hid (Y10.out.call B0)
    rw [hW0]
    have Y11 := hid y11; have Y12 := hid y12; have Y13 := hid y13; have YQ := hid yq; have Z0 := hid z0
    have hw3 := B4.out.size; have hw1 := BW1.out.size; have hw13 := BW3.out.size
    clear hW0 y11 y12 y13 yq B0 z0 l9 l10 b9 b10 hmk hKI
    have i5 : w4.heap.size + 2 ≤ wr.heap.size := by have := Z5.out; omega
    have i0' : wr.heap.size + 4 ≤ W0.heap.size := by have := Z0.out; omega
    refine range_ok (by omega) (gf := 194) (lb := #[.pointer (some ⟨wr.heap.size + 1 + 1 + 1, 0, none⟩)]) rfl (enters_of Tryz.func194 (by kernel_rfl) rfl)
      (back_feeds (Kp := KpQ (wr.heap.size + 1 + 1 + 1) (wr.heap.size + 1) K) (V := fun _ _ => True) 8 (by omega) _ K K (some ⟨wr.heap.size + 1, 0, none⟩) (by omega) (Nat.le_refl _) W0 (KpQ.refl _ _ _) KpQ.trans (fun W1 W2 b1 b2 => ?hread)) KpQ.trans (KpQ.put (by omega)) (Below.refl _ _) (fun _ => rfl)
      (fun pre W => (∃ o Q, DivI (a * d) (b * d) m (A + 1) (K - pre.length) o Q ∧ ArrP .u64 147 W gu o ∧ Arr .u64 147 W (wr.heap.size + 1) Q) ∧ Keep2 W0 W gu (some (wr.heap.size + 1)))
      (fun c pre W => False)
      (fun s A B row hs hg hr => ⟨by
        obtain ⟨o, Q, h1, h2, h3⟩ := hs.1
        obtain ⟨cs, h2a, h2b⟩ := h2
        exact ⟨o, Q, h1, ⟨cs, h2a.kept hg (fun r e => (hr r e).2), h2b⟩, Blk.kept h3 hg (fun r e => (hr r e).2)⟩, hs.2.grown hg (fun k e => .inr (.inr (hr k e).1))⟩)
      (fun c s A B row hs hg hr => hs)
      ⟨⟨us, _, ?start, PU0.out, YQ.out⟩, Keep2.refl _ _ _⟩ ?act ?assign ?body ?done ?stop
    case hread =>
      obtain ⟨Q, hq, hql⟩ := b2.2 ⟨_, YQ.out.call b1, by simp⟩
      refine ⟨?_, fun i hi => ?_⟩
      · have h1 : Blk W2 (wr.heap.size + 1 + 1 + 1) #[.slice (some ⟨wr.heap.size + 1, 0, none⟩) K K] 119 := b2.1.trans (Y13.out.call b1)
        exact h1.cell 0
      · exact ⟨_, 0, _, rfl, by rw [Nat.zero_add]; exact hq.cell (List.getElem?_eq_getElem (by omega)), trivial⟩
    case start =>
      have h1 : 1000000000 ^ (m - 1) ≤ b := limbs_lt_length.1 (by rw [HN.out]; omega)
      have h2 : b * d ≤ 1000000000 ^ m := Nat.le_of_lt (limbs_length_le.1 (by rw [HS.out]; exact Nat.le_refl _))
      have hsu : Sm us := by rw [← HUS.out]; exact (sm_limbs _).append (Sm.cons (by omega) Sm.nil)
      have hvu : val us = a * d := by rw [← HUS.out, val_append, val_limbs]; simp [val_cons]
      have := DivI.start (U := a * d) (V := b * d) (n := m) (L := A + 1) h2 hsu HUL.out (by omega) hvu (by
        rw [← HUS.out]
        exact top_zero HAD.out (by omega) (by omega) h1 s2)
      rw [show A + 1 - m = K by omega] at this
      simpa using this
    case assign =>
      intro l x W KK hK
      gi_wp2
      exact hK
    case stop =>
      rintro D c pre W hD - h
      exact h.elim
    case done =>
      rintro D xs W hD hx ⟨⟨o2, Q, hDI, hU, hQ⟩, hKp⟩ hK
      rw [hx, Nat.sub_self] at hDI
      obtain ⟨r1, r2, r3⟩ := hDI.done (by omega)
      have hfin := hid (div_end (a := a) (b := b) s2 r1 r2)
      have R3 := hid r3
      have hlen := hid (show (limbs (val (o2.take m))).length ≤ 1000000 from by
        rw [r3]
        have := limbs_length_mono (Nat.le_of_lt r2)
        rw [HS.out] at this
        omega)
      have hol := hid hDI.lo
      have hql := hid (show Q.length = K from by rw [hDI.lq]; omega)
      have k9 := hKp.blk Y9'.out (by omega) (by simp; omega)
      have k11 := hKp.blk Y11.out (by omega) (by simp)
      have k12 := hKp.blk Y12.out (by omega) (by simp)
      have ks := hKp.blk S0.out (by have := hsz.out; omega) (by have := hsz.out; simp; omega)
      have c9 := k9.cell 0
      have c11 := k11.cell 0
      have c12 := k12.cell 0
      have cs0 := ks.cell 0
      simp only [List.getElem?_toArray, List.getElem?_cons_zero] at c9 c11 c12 cs0
      have ru := hid (show Row W (.slice (some ⟨gu, 0, none⟩) m cu) (ints .u64 (o2.take m)) from hU.row (by rw [hol.out]; omega) (by omega) hcum)
      have smu := hid (hDI.so.take m); have smq := hid hDI.sq
      have HQ := hid hQ; have HKP := hid hKp; have HK := hid hK
      have BW := hid (show Below w.heap.size w W from BX0.out.trans (hKp.below (B := w.heap.size) (by omega) (by omega) (fun x e => by injection e; omega)))
      have f1 : (m : Int) ≤ (cu : Int) := by omega
      clear hx hDI r1 r2 r3 k9 k11 k12 ks hU hQ hKp hK
      have htr : Calls Tryz.prog 158 #[.slice (some ⟨gu, 0, none⟩) m cu] W.drew fun e w' => e = .returned (.slice (some ⟨gu, 0, none⟩) (limbs (val o2)).length cu) ∧ w' = W.drew := by
        have := l_trim_to W.drew (some ⟨gu, 0, none⟩) cu (o2.take m) smu.out (by rw [List.length_take_of_le (by rw [hol.out]; omega)]; exact ru.out.drew)
        rwa [List.length_take_of_le (by rw [hol.out]; omega), R3.out] at this
      have hin := hid (show IsN .u64 W.drew (.slice (some ⟨gu, 0, none⟩) (limbs (val o2)).length cu) (val o2) from by
        have := trim_isN (c := cu) (a := some ⟨gu, 0, none⟩) smu.out (by rw [List.length_take_of_le (by rw [hol.out]; omega)]; exact ru.out.drew)
        rwa [R3.out] at this)
      have hlen2 := hid (show (limbs (val o2)).length ≤ 1000000 from by have := hlen.out; rwa [R3.out] at this)
      have HTR := hid htr; clear htr
      gi_wp2
      refine wpIn_wide.2 ?_
      go_region_held3 (fun w' => w'.cell? ⟨w4.heap.size, 0, none⟩ = some (.slice (some ⟨gu, 0, none⟩) (A + 1) cu) ∧ w'.cell? ⟨wr.heap.size, 0, none⟩ = some (.int .i64 (m : Int)) ∧ w'.cell? ⟨w1.heap.size, 0, none⟩ = some (.int .u64 (d : Int)))
        (first
          | exact ⟨c9, c11, cs0⟩
          | exact ⟨(B6.out.cell (p := ⟨_, _, _⟩) (cell_lt (a := ⟨w4.heap.size, 0, none⟩) c9)).trans c9, (B6.out.cell (p := ⟨_, _, _⟩) (cell_lt (a := ⟨wr.heap.size, 0, none⟩) c11)).trans c11, (B6.out.cell (p := ⟨_, _, _⟩) (cell_lt (a := ⟨w1.heap.size, 0, none⟩) cs0)).trans cs0⟩)
        (first
          | (go_at_call 158; refine HTR.out.mono ?_; rintro e w' ⟨rfl, rfl⟩)
          | (go_at_call 201; refine (l_small _ _ (val o2) d hin.out s2 s3 hlen2.out).mono ?_; rintro e w6 ⟨⟨v6, rfl, hv6⟩, hb6⟩; have V6 := hid hv6; have B6 := hid (show Below W.heap.size W w6 from ⟨hb6.os, hb6.tape, hb6.output, hb6.size, hb6.block⟩); clear hv6 hb6))
      have c12' := (B6.out.cell (p := ⟨_, _, _⟩) (cell_lt (a := ⟨wr.heap.size + 1 + 1, 0, none⟩) c12)).trans c12
      have HQ6 := hid (HQ.out.call B6.out)
      have rq := hid (show Row w6 (.slice (some ⟨wr.heap.size + 1, 0, none⟩) Q.length K) (ints .u64 Q) from by
        have := HQ6.out.row (n := K) (c := K) (by rw [hql.out]; exact Nat.le_refl _) (Nat.le_refl _) (by unfold maxLen; omega)
        rw [hql.out]
        rwa [List.take_of_length_le (by rw [hql.out]; exact Nat.le_refl _)] at this)
      clear c9 c11 c12 cs0
      have HK6 := hid (show w6.heap[D]? = some (.deferred (some [])) from (B6.out.block D (Array.getElem?_eq_some_iff.1 HK.out).1).trans HK.out)
      gi_wp2_with (refine ⟨trivial, ?_⟩; gi_at_call 158; have htq := l_trim_to w6 (some ⟨wr.heap.size + 1, 0, none⟩) K Q smq.out rq.out; rw [hql.out] at htq; refine (callsIn_wide.2 htq).mono ?_; clear htq; rintro e w' ⟨rfl, rfl⟩)
      refine marks_end HK6.out (v := .tuple #[.slice (some ⟨wr.heap.size + 1, 0, none⟩) (limbs (val Q)).length K, v6]) (by simp [results, Tryz.results165, go_sem]) ⟨⟨_, _, rfl, ?_, ?_⟩, ?_⟩
      · have h1 := trim_isN smq.out rq.out
        have h2 := IsN.put h1 HK6.out (.deferred none)
        rw [← hfin.out.1]
        exact h2
      · have h2 := IsN.put V6.out HK6.out (.deferred none)
        rwa [hfin.out.2] at h2
      · exact (bnext BW.out B6.out).trans (belowK_b (w := w) (Nat.le_refl _) _ D _ _ (by omega) HK6.out rfl rfl)
    case body =>
      rintro l pre ⟨j, z⟩ W ⟨hj, -⟩ ⟨⟨o2, Q, hD, hU, hQ⟩, hKp⟩
      dsimp only at hj
      rw [show K - pre.length = j + 1 by omega] at hD
      have hol : o2.length = A + 1 := hD.lo
      have hql : Q.length = K := by rw [hD.lq]; omega
      have hV := hid (val_limbs (b * d))
      have hSI := hid (show StepIn o2 (limbs (b * d)) j m from ⟨hm2, by omega, HS.out, by rw [hol]; omega, by rw [hol]; omega, hD.so, sm_limbs _, limbs_top (n := m - 1) (by rw [HS.out]; omega), by rw [hV.out]; exact hD.win (by omega)⟩)
      obtain ⟨zq, hzq⟩ : ∃ z, Q[j]? = some z := ⟨_, List.getElem?_eq_getElem (by omega)⟩
      have k9 := hKp.blk Y9'.out (by omega) (by simp; omega)
      have k10 := hKp.blk Y10'.out (by omega) (by simp; omega)
      have k11 := hKp.blk Y11.out (by omega) (by simp)
      have k12 := hKp.blk Y12.out (by omega) (by simp)
      have kv : ArrP .u64 147 W gv (limbs (b * d)) := by
        obtain ⟨cs, h1, h2⟩ := V0.out
        exact ⟨cs, hKp.blk h1 (by omega) (by simp; omega), h2⟩
      have rv := hid (show Row W (.slice (some ⟨gv, 0, none⟩) m cv) (ints .u64 (limbs (b * d))) from by
        have := kv.row (n := m) (c := cv) (by rw [HS.out]; exact Nat.le_refl _) hcv hcvm
        rwa [List.take_of_length_le (by rw [HS.out]; exact Nat.le_refl _)] at this)
      have c9 := k9.cell 0
      have c10 := k10.cell 0
      have c11 := k11.cell 0
      have c12 := k12.cell 0
      simp only [List.getElem?_toArray, List.getElem?_cons_zero] at c9 c10 c11 c12
      have HJ := hid hj; have HD := hid hD; have HU := hid hU; have HQ := hid hQ; have HKP := hid hKp; have HQL := hid hql; have HZQ := hid hzq
      have K9 := hid k9; have K10 := hid k10; have K11 := hid k11; have K12 := hid k12
      have f1 : (0 : Int) ≤ (j : Int) := by omega
      have f2 : (j : Int) < (K : Int) := by omega
      have f3 : (j : Int) + (m : Int) + 1 ≤ (cu : Int) := by omega
      have f4 : (j : Int) ≤ (j : Int) + (m : Int) + 1 := by omega
      have hjm : j + m ≤ 2000002 := by omega
      clear hj hD hU hQ hKp hql hzq hol k9 k10 k11 k12 kv
      have e1 : IntKind.i64.wrap ((j : Int) + m) = (j : Int) + m := IntWalk.i64_in _ (by omega)
      have e2 : IntKind.i64.wrap ((j : Int) + m + 1) = (j : Int) + m + 1 := IntWalk.i64_in _ (by omega)
      have e3 : ((j : Int) + m + 1).toNat = j + m + 1 := by omega
      gi_wp2
      refine held_round_lex 10 (fun W' => W'.cell? ⟨wr.heap.size + 1 + 1, 0, none⟩ = some (.slice (some ⟨wr.heap.size + 1, 0, none⟩) K K) ∧ W'.cell? ⟨w4.heap.size, 0, none⟩ = some (.slice (some ⟨gu, 0, none⟩) (A + 1) cu) ∧ W'.cell? ⟨wr.heap.size, 0, none⟩ = some (.int .i64 (m : Int)) ∧ W'.cell? ⟨w4.heap.size + 1, 0, none⟩ = some (.slice (some ⟨gv, 0, none⟩) m cv)) (by kernel_rfl) (by kernel_rfl) (by kernel_rfl) rfl (by kernel_rfl) ⟨c12, c9, c11, c10⟩ ?_
      simp only [List.take_succ_cons, List.take_zero]
      iterate 10
        apply Exists.intro
        refine ⟨.inl ⟨by rfl, ?_⟩, ?_⟩
        · (intro W' hW'
           obtain ⟨q1, q2, q3, q4⟩ := hW'
           go_simp
           try (with_reducible rfl))
        simp only [Act.put, List.setIfInBounds_toArray, List.set_cons_zero, List.set_cons_succ]
      refine held_one (i := 10) (by kernel_rfl) (by rfl) (by rfl) ?_
      go_wp2_with fail
      rw [show j + m + 1 - j = m + 1 by omega]
      refine (l_estimate _ gu j _ o2 gv 0 _ (limbs (b * d)) m hSI.out (HU.out.drewN 1) (rv.out.drewN 1) (by omega)).mono ?_
      rintro e w5 ⟨he, o5, hw5, hA5, hg5⟩
      rw [hV.out] at he hw5
      have HN5 := hid (HD.out.next (by omega) hw5)
      obtain ⟨qv, hqv⟩ : ∃ q, val ((o2.drop j).take (m + 1)) / (b * d) = q := ⟨_, rfl⟩
      rw [hqv] at he HN5
      subst he
      have A5 := hid hA5; have G5 := hid (show W.grownBy w5 (some gu) from ⟨hg5.os, hg5.tape, hg5.output, hg5.size, hg5.block⟩)
      have Q5 := hid (Arr.gb HQ.out G5.out (by omega))
      have s12 := gb_cell G5.out c12 (by simp <;> omega)
      have s9 := gb_cell G5.out c9 (by simp <;> omega)
      have s11 := gb_cell G5.out c11 (by simp <;> omega)
      have s10 := gb_cell G5.out c10 (by simp <;> omega)
      have d3 := Q5.out.cell HZQ.out
      have d4 := Q5.out.free j
      clear hw5 hA5 hg5 hqv c9 c10 c11 c12
      go_wp2_with fail
      refine ⟨⟨s12, s9, s11, s10⟩, held_one (i := 11) (by kernel_rfl) (by rfl) (by rfl) ?_⟩
      go_wp2_with fail
      refine ⟨⟨s12, s9, s11, s10⟩, held_one (i := 12) (by kernel_rfl) (by rfl) (by rfl) ?_⟩
      go_wp2_with fail
      have q5 := Q5.out.set j qv
      refine ⟨⟨?_, ?_, ?_, ?_⟩, wpAnyH_done (by kernel_rfl) ?_ _⟩
      · rw [World.cell?_setCell_other _ _ _ _ (by simp <;> omega)]; exact s12
      · rw [World.cell?_setCell_other _ _ _ _ (by simp <;> omega)]; exact s9
      · rw [World.cell?_setCell_other _ _ _ _ (by simp <;> omega)]; exact s11
      · rw [World.cell?_setCell_other _ _ _ _ (by simp <;> omega)]; exact s10
      simp only [Only]
      gi_wp2
      have k13 := HKP.out.blk Y13.out (by omega) (by simp <;> omega)
      have l13 := k13.lt
      refine ⟨(KeepsFrom.of_grownBy G5.out (fun k e => by injection e; omega)).trans ((KeepsOthers.setCell _ _ _).from _), ⟨?_, fun _ => ⟨_, q5, by rw [List.length_set, HQL.out]⟩⟩, ⟨o5, _, ?_, A5.out.other (by simp <;> omega) _, q5⟩, (HKP.out.grown G5.out (fun k e => by injection e; omega)).set (.inr (.inl rfl)) _⟩
      · rw [Below.heap_setCell _ _ _ _ (by simp <;> omega)]
        exact G5.out.block _ l13 (by simp <;> omega)
      · rw [List.length_append, List.length_singleton, show K - (pre.length + 1) = j by have := HJ.out; omega]
        exact HN5.out
theorem l_DivMod (w : World) (v u : Value) (a b : Nat) (ha : IsN .u64 w v a) (hb : IsN .u64 w u b) (h0 : 0 < b) (hla : (limbs a).length ≤ 1000000) :
    Calls Tryz.prog 165 #[v, u] w fun e w' => RetNN .u64 (a / b) (a % b) e w' ∧ Below w.heap.size w w' := by
  by_cases hlt : a < b
  · exact l_divmod_less w v u a b ha hb hlt hla
  · by_cases h1 : b < 1000000000
    · exact l_divmod_one w v u a b ha hb (by omega) h0 h1 hla
    · refine l_divmod_many w v u a b _ ha hb (by omega) rfl ?_ hla
      have : 1 < (limbs b).length := limbs_lt_length.2 (by omega)
      omega
end Go.Proofs.YtccalhlhdiapiaaGreatDoor
namespace Go.Proofs.YtccalhlhdiapiaaGreatDoor
open Go.RowKit
set_option linter.unusedVariables false
set_option maxHeartbeats 2000000 in
theorem l_Gcd (w : World) (v u : Value) (a b : Nat) (ha : IsN .u64 w v a) (hb : IsN .u64 w u b) (hla : (limbs a).length ≤ 1000000) (hlb : (limbs b).length ≤ 1000000) :
    Calls Tryz.prog 164 #[v, u] w fun e w' => RetN .u64 (Nat.gcd a b) e w' ∧ Below w.heap.size w w' := by
  have HA := hid ha; have HB := hid hb; have LA := hid hla; have LB := hid hlb
  clear ha hb hla hlb
  go_enter Tryz.func164, Tryz.ntmps164
  go_wp2_with fail
  go_loopw [0, 1, 5, 6] (fun x y q r wr => ∃ m n : Nat, Hid (IsN .u64 wr x m) ∧ Hid (IsN .u64 wr y n) ∧ Hid ((limbs m).length ≤ 1000000) ∧ Hid ((limbs n).length ≤ 1000000) ∧ Hid (Nat.gcd m n = Nat.gcd a b) ∧ Hid (Below w.heap.size w wr))
    (fun x y q r wr => numOf .u64 wr y)
  case atStart => exact ⟨a, b, HA, HB, LA, LB, rfl, Below.refl _ _⟩
  case round =>
    obtain ⟨m, n, hx, hy, hm, hn, hg, hB⟩ := hrel
    have hnum := hid (numOf_eq hy.out)
    obtain ⟨a1, c1, rfl, h1, h1', h1''⟩ := hx.out.openI
    obtain ⟨a2, c2, rfl, h2, h2', h2''⟩ := hy.out.openI
    clear h1'' h2''
    by_cases h0 : n = 0
    · subst h0
      have hl : (limbs 0).length = 0 := by rw [limbs_zero]; rfl
      rw [hl] at *
      clear hl
      go_wp2_with fail
      go_ret
      exact ⟨⟨_, rfl, by rw [← hg.out, Nat.gcd_zero_right]; exact hx.out⟩, hB.out⟩
    · have hpos : 0 < (limbs n).length := List.length_pos_iff.2 (fun e => h0 (limbs_nil.1 e))
      have q0 : decide ((0 : Int) < ((limbs n).length : Int)) = true := by simp; omega
      go_wp2_with fail
      refine (l_DivMod _ _ _ m n hx.out hy.out (by omega) hm.out).mono ?_
      rintro e w1 ⟨⟨v1, v2, rfl, hv1, hv2⟩, hb1⟩
      have V2 := hid hv2; have B1 := hid (bnext hB.out hb1); have Y1 := hid (hy.out.call hb1)
      have hlt := hid (Nat.mod_lt m (y := n) (by omega))
      have hll := hid (show (limbs (m % n)).length ≤ 1000000 from Nat.le_trans (limbs_length_mono (Nat.le_of_lt hlt.out)) hn.out)
      have hgg := hid (show Nat.gcd n (m % n) = Nat.gcd a b from by rw [← hg.out, Nat.gcd_comm m n, Nat.gcd_rec n m, Nat.gcd_comm]) 
      clear hv1 hv2 hb1
      go_wp2_with fail
      go_roundw
      case rel => exact ⟨n, m % n, Y1, V2, hn, hll, hgg, B1⟩
      case measure => rw [numOf_eq V2.out, hnum.out]; exact hlt.out
end Go.Proofs.YtccalhlhdiapiaaGreatDoor
namespace Go.Proofs.YtccalhlhdiapiaaGreatDoor
open Go.RowKit Go.Shelf
open Go.Lib (decDigits nDigits)
set_option linter.unusedVariables false
set_option linter.unusedSimpArgs false
theorem nd_lt {n A : Nat} (h : nDigits n ≤ A) : n < 10 ^ A := Nat.lt_of_lt_of_le (Go.Lib.lt_pow_nDigits n) (Nat.pow_le_pow_right (by omega) h)
theorem nd_mul {a b A B : Nat} (ha : nDigits a ≤ A) (hb : nDigits b ≤ B) (h0 : 0 < A + B) : nDigits (a * b) ≤ A + B := nDigits_le h0 (fit_mul (nd_lt ha) (nd_lt hb))
end Go.Proofs.YtccalhlhdiapiaaGreatDoor
namespace Go.Proofs.YtccalhlhdiapiaaGreatDoor
open Go.RowKit
open Go.Lib (decDigits nDigits)
def sgn (m : Bool) (n : Nat) : Int := if m = true then -(n : Int) else n
theorem sgn_natAbs (m : Bool) (n : Nat) : (sgn m n).natAbs = n := by cases m <;> simp [sgn]
theorem sgn_zero (m : Bool) : sgn m 0 = 0 := by cases m <;> simp [sgn]
theorem sgn_neg {m : Bool} {n : Nat} (h : 0 < n) : decide (sgn m n < 0) = m := by cases m <;> simp [sgn] <;> omega
theorem sgn_of (z : Int) : sgn (decide (z < 0)) z.natAbs = z := by
  unfold sgn
  by_cases h : z < 0 <;> simp [h] <;> omega
def qmk (m : Bool) (n d : Nat) : Rat := mkRat (sgn m n) d
theorem sgn_div (m : Bool) {n g : Nat} (h : g ∣ n) : sgn m n / (g : Int) = sgn m (n / g) := by
  cases m
  · simp [sgn]
  · simp only [sgn, if_true]
    rw [Int.neg_ediv_of_dvd (Int.natCast_dvd_natCast.2 h)]
    simp
theorem qmk_num {m : Bool} {n d : Nat} (hd : 0 < d) : (qmk m n d).num = sgn m (n / Nat.gcd n d) := by
  unfold qmk
  rw [Rat.num_mkRat, if_neg (by omega), sgn_natAbs, Nat.gcd_comm, sgn_div m (Nat.gcd_dvd_left n d)]
theorem qmk_den {m : Bool} {n d : Nat} (hd : 0 < d) : (qmk m n d).den = d / Nat.gcd n d := by
  unfold qmk
  rw [Rat.den_mkRat, if_neg (by omega), sgn_natAbs, Nat.gcd_comm]
theorem qmk_zero (m : Bool) (d : Nat) : qmk m 0 d = 0 := by unfold qmk; rw [sgn_zero, Rat.zero_mkRat]
theorem qmk_self (q : Rat) : qmk (decide (q.num < 0)) q.num.natAbs q.den = q := by unfold qmk; rw [sgn_of, Rat.mkRat_self]
structure IsQ (k : IntKind) (w : World) (v : Value) (q : Rat) : Prop where
  ex : ∃ N D, v = .agg #[.bool (decide (q.num < 0)), N, D] ∧ IsN k w N q.num.natAbs ∧ IsN k w D q.den
theorem IsQ.mk' {k : IntKind} {w : World} {N D : Value} {m : Bool} {n d : Nat} (hn : 0 < n) (hd : 0 < d) (h1 : IsN k w N (n / Nat.gcd n d)) (h2 : IsN k w D (d / Nat.gcd n d)) : IsQ k w (.agg #[.bool m, N, D]) (qmk m n d) := by
  have hg : 0 < n / Nat.gcd n d := Nat.div_pos (Nat.gcd_le_left d hn) (Nat.gcd_pos_of_pos_left d hn)
  refine ⟨N, D, ?_, ?_, ?_⟩
  · rw [qmk_num hd, sgn_neg hg]
  · rw [qmk_num hd, sgn_natAbs]; exact h1
  · rw [qmk_den hd]; exact h2
theorem IsQ.zero_ {k : IntKind} {w : World} {N D : Value} (h1 : IsN k w N 0) (h2 : IsN k w D 1) : IsQ k w (.agg #[.bool false, N, D]) 0 := ⟨N, D, rfl, h1, h2⟩
def RetQ (k : IntKind) (q : Rat) (e : Ending) (w' : World) : Prop := ∃ v, e = .returned v ∧ IsQ k w' v q
end Go.Proofs.YtccalhlhdiapiaaGreatDoor
namespace Go.Proofs.YtccalhlhdiapiaaGreatDoor
open Go.RowKit
open Go.Lib (decDigits nDigits)
theorem numB_of {s : ByteArray} (h : fB s = true) : s = numB (bN s) := by
  have h1 := dec_of_form (formB_iff.1 h)
  apply ByteArray.ext
  show s.data = (decDigits (dv s.data.toList)).toArray
  rw [← h1]
theorem bN_lt {s : ByteArray} (h : fB s = true) (hs : ¬ 1000 < s.size) : bN s < 10 ^ eN := by
  have h1 := dv_lt (fB_dig h)
  have e : s.data.toList.length = s.size := Array.length_toList
  exact Nat.lt_of_lt_of_le h1 (Nat.pow_le_pow_right (by omega) (by rw [e]; unfold eN; omega))
theorem iD_plain {s : ByteArray} (h : iM s = false) : iD s = s := by
  unfold iM at h
  unfold iD Lib.trimPrefix
  rw [h]
  rfl
theorem parts_ok {p : ByteArray} (he : qE p = 0) (hm : ¬ iM (cW p) = true) (hl : ¬ (1000 < (cW p).size ∨ 1000 < (qD p).size)) :
    cW p = numB (bN (cW p)) ∧ qD p = numB (bN (qD p)) ∧ bN (cW p) < 10 ^ eN ∧ bN (qD p) < 10 ^ eN ∧ errN (cW p).data.toList = 0 ∧ errN (qD p).data.toList = 0 := by
  have h1 := qE_zero he
  have hm' : iM (cW p) = false := by simpa using hm
  have hW : fB (cW p) = true := by
    have := iB_form (qB_whole h1.1)
    rwa [iD_plain hm'] at this
  have hD := qB_below h1.1
  have l1 : ¬ 1000 < (cW p).size := fun h => hl (.inl h)
  have l2 : ¬ 1000 < (qD p).size := fun h => hl (.inr h)
  have s1 : (cW p).data.toList.length = (cW p).size := Array.length_toList
  have s2 : (qD p).data.toList.length = (qD p).size := Array.length_toList
  exact ⟨numB_of hW, numB_of hD, bN_lt hW l1, bN_lt hD l2, errN_ok (formB_iff.1 hW) (by omega), errN_ok (formB_iff.1 hD) (by omega)⟩
end Go.Proofs.YtccalhlhdiapiaaGreatDoor
namespace Go.Proofs.YtccalhlhdiapiaaGreatDoor
open Go.RowKit
open Go.Lib (decDigits nDigits)
def noSl (l : List UInt8) : Prop := ∀ b ∈ l, b ≠ 47
theorem ix_none : ∀ {l : List UInt8}, noSl l → Lib.index l [47] = -1
  | [], _ => rfl
  | b :: l, h => by
    have h1 : b ≠ 47 := h b (List.mem_cons_self ..)
    have h2 := ix_none (l := l) (fun x hx => h x (List.mem_cons_of_mem _ hx))
    have h3 : ((47 : UInt8) == b) = false := by rw [beq_eq_false_iff_ne]; exact fun e => h1 e.symm
    simp [Lib.index, List.isPrefixOf, h2, h3]
theorem ix_at : ∀ {l r : List UInt8}, noSl l → Lib.index (l ++ 47 :: r) [47] = l.length
  | [], r, _ => by simp [Lib.index, List.isPrefixOf]
  | b :: l, r, h => by
    have h1 : b ≠ 47 := h b (List.mem_cons_self ..)
    have h2 := ix_at (l := l) (r := r) (fun x hx => h x (List.mem_cons_of_mem _ hx))
    have h3 : ((47 : UInt8) == b) = false := by rw [beq_eq_false_iff_ne]; exact fun e => h1 e.symm
    have h4 : ((l.length : Int) == -1) = false := by rw [beq_eq_false_iff_ne]; omega
    simp only [List.cons_append, Lib.index, List.isPrefixOf, h3, h2, h4, Bool.false_and]
    simp
theorem cut_none {l : List UInt8} (h : noSl l) : Lib.cut l [47] = (l, [], false) := by
  unfold Lib.cut
  rw [if_neg (by rw [ix_none h]; decide)]
theorem cut_at {l r : List UInt8} (h : noSl l) : Lib.cut (l ++ 47 :: r) [47] = (l, r, true) := by
  unfold Lib.cut
  rw [if_pos (by rw [ix_at h]; omega), ix_at h]
  simp [List.drop_append]
theorem sl_cases : ∀ s : List UInt8, noSl s ∨ ∃ A B, noSl A ∧ s = A ++ 47 :: B
  | [] => .inl (fun b h => by cases h)
  | b :: l => by
    by_cases hb : b = 47
    · exact .inr ⟨[], l, fun b h => (by cases h), by rw [hb]; rfl⟩
    · rcases sl_cases l with h | ⟨A, B, hA, e⟩
      · exact .inl (fun x hx => by
          rcases List.mem_cons.1 hx with rfl | hx
          · exact hb
          · exact h x hx)
      · exact .inr ⟨b :: A, B, fun x hx => (by
          rcases List.mem_cons.1 hx with rfl | hx
          · exact hb
          · exact hA x hx), by rw [e]; rfl⟩
theorem noSl_dig {l : List UInt8} (h : allDig l) : noSl l := fun b hb e => by
  have := isDig_iff.1 (h b hb)
  rw [e] at this
  simp at this
def txB (m : Bool) (n d : Nat) : ByteArray := ⟨((if m = true then [45] else []) ++ (decDigits n ++ (if d = 1 then [] else 47 :: decDigits d))).toArray⟩
def txQ (q : Rat) : ByteArray := txB (decide (q.num < 0)) q.num.natAbs q.den
theorem ba_ext {a b : ByteArray} (h : a.data.toList = b.data.toList) : a = b := by
  apply ByteArray.ext
  exact Array.toList_inj.1 h
theorem txB_list (m : Bool) (n d : Nat) : (txB m n d).data.toList = (if m = true then [45] else []) ++ (decDigits n ++ (if d = 1 then [] else 47 :: decDigits d)) := by simp [txB]
theorem tx_head (m : Bool) (n : Nat) : noSl ((if m = true then [45] else []) ++ decDigits n) := by
  intro b hb
  rcases List.mem_append.1 hb with h | h
  · cases m <;> simp at h
    rw [h]; decide
  · exact noSl_dig (allDig_dec n) b h
theorem cut_tx (m : Bool) (n d : Nat) : Lib.cut (txB m n d).data.toList [47] = ((if m = true then [45] else []) ++ decDigits n, if d = 1 then [] else decDigits d, !decide (d = 1)) := by
  rw [txB_list, ← List.append_assoc]
  by_cases h : d = 1
  · rw [if_pos h, List.append_nil, cut_none (tx_head m n), if_pos h]
    simp [h]
  · rw [if_neg h, cut_at (tx_head m n), if_neg h]
    simp [h]
theorem cW_tx (m : Bool) (n d : Nat) : (cW (txB m n d)).data.toList = (if m = true then [45] else []) ++ decDigits n := by simp [cW, cut_tx]
theorem cB_tx (m : Bool) (n d : Nat) : (cB (txB m n d)).data.toList = if d = 1 then [] else decDigits d := by simp [cB, cut_tx]
theorem cS_tx (m : Bool) (n d : Nat) : cS (txB m n d) = !decide (d = 1) := by simp [cS, cut_tx]
theorem qD_tx (m : Bool) (n d : Nat) : qD (txB m n d) = numB d := by
  unfold qD
  rw [cS_tx]
  by_cases h : d = 1
  · rw [h]; rw [if_neg (by simp)]; unfold numB; rw [dec_one]
  · rw [if_pos (by simp [h])]
    apply ba_ext
    rw [cB_tx, if_neg h, numB_list]
theorem minus_dec (n : Nat) : List.isPrefixOf [(45 : UInt8)] (decDigits n) = false := by
  cases h : decDigits n with
  | nil => rfl
  | cons b l =>
    have := isDig_iff.1 (allDig_dec n b (by rw [h]; exact List.mem_cons_self ..))
    have h3 : ((45 : UInt8) == b) = false := by
      rw [beq_eq_false_iff_ne]
      rintro rfl
      simp at this
    simp [List.isPrefixOf, h3]
theorem iM_tx (m : Bool) (n d : Nat) : iM (cW (txB m n d)) = m := by
  unfold iM Lib.hasPrefix
  rw [cW_tx]
  cases m
  · simpa using minus_dec n
  · simp [List.isPrefixOf]
theorem iD_tx (m : Bool) (n d : Nat) : iD (cW (txB m n d)) = numB n := by
  apply ba_ext
  have h := iM_tx m n d
  unfold iM at h
  unfold iD Lib.trimPrefix
  rw [h, cW_tx, numB_list]
  cases m <;> simp
theorem bN_iD_tx (m : Bool) (n d : Nat) : bN (iD (cW (txB m n d))) = n := by rw [iD_tx, bN_num]
theorem bN_qD_tx (m : Bool) (n d : Nat) : bN (qD (txB m n d)) = d := by rw [qD_tx, bN_num]
theorem numB_ne {a b : Nat} (h : a ≠ b) : numB a ≠ numB b := fun e => h (by rw [← bN_num a, e, bN_num])
theorem numB_zero : numB 0 = ⟨#[48]⟩ := by unfold numB; rw [dec_zero]
theorem numB_one : numB 1 = ⟨#[49]⟩ := by unfold numB; rw [dec_one]
theorem fB_num (n : Nat) : fB (numB n) = true := by unfold fB; rw [numB_list]; exact formB_dec n
theorem qE_tx {m : Bool} {n d : Nat} (hg : Nat.gcd n d = 1) (hd : 0 < d) (hm : m = true → n ≠ 0) (h1 : nDigits n ≤ 4000) (h2 : nDigits d ≤ 4000) : qE (txB m n d) = 0 := by
  refine qE_ok ?_ ?_ ?_
  · unfold qB iB
    rw [iD_tx, iM_tx, cS_tx, fB_num]
    have e1 : (m && decide (numB n = ⟨#[48]⟩)) = false := by
      cases m
      · rfl
      · rw [← numB_zero]; simpa using numB_ne (hm rfl)
    rw [e1]
    by_cases h : d = 1
    · simp [h]
    · have e2 : cB (txB m n d) = numB d := by
        apply ba_ext
        rw [cB_tx, if_neg h, numB_list]
      have hn : n ≠ 0 := fun e => by rw [e, Nat.gcd_zero_left] at hg; exact h hg
      rw [e2, fB_num, ← numB_zero, ← numB_one]
      have q1 := numB_ne hn
      have q2 := numB_ne (show d ≠ 0 by omega)
      have q3 := numB_ne h
      simp [q1, q2, q3]
  · unfold qL
    rw [iD_tx, qD_tx, numB_size, numB_size]
    simp
    omega
  · unfold qG
    rw [bN_iD_tx, bN_qD_tx]
    simp [hg]
def vQ (s : ByteArray) : Rat := qmk (iM (cW s)) (bN (iD (cW s))) (bN (qD s))
theorem formZ {s : ByteArray} (h : fB s = true) (h0 : s ≠ ⟨#[48]⟩) : 0 < bN s := by
  rcases Nat.eq_zero_or_pos (bN s) with e | e
  · have := numB_of h
    rw [e, numB_zero] at this
    exact absurd this h0
  · exact e
theorem valid {s : ByteArray} (h : qE s = 0) : Nat.gcd (bN (iD (cW s))) (bN (qD s)) = 1 ∧ 0 < bN (qD s) ∧ (iM (cW s) = true → bN (iD (cW s)) ≠ 0) ∧ nDigits (bN (iD (cW s))) ≤ 4000 ∧ nDigits (bN (qD s)) ≤ 4000 ∧ s = txB (iM (cW s)) (bN (iD (cW s))) (bN (qD s)) := by
  obtain ⟨h1, h2, h3⟩ := qE_zero h
  have hW := iB_form (qB_whole h1)
  have hD := qB_below h1
  have eW := numB_of hW
  have eD := numB_of hD
  have hm : iM (cW s) = true → bN (iD (cW s)) ≠ 0 := by
    intro hm e
    have h4 := qB_whole h1
    unfold iB at h4
    rw [e, numB_zero] at eW
    rw [hm, eW] at h4
    simp at h4
  unfold qL at h2
  simp only [Bool.or_eq_false_iff, decide_eq_false_iff_not] at h2
  have l1 : nDigits (bN (iD (cW s))) ≤ 4000 := by
    have := h2.1
    rw [eW, numB_size] at this
    rw [eW, bN_num] at *
    omega
  have l2 : nDigits (bN (qD s)) ≤ 4000 := by
    have := h2.2
    rw [eD, numB_size] at this
    rw [eD, bN_num] at *
    omega
  have es : (cW s).data.toList = (if iM (cW s) = true then [45] else []) ++ decDigits (bN (iD (cW s))) := by
    have e : (iD (cW s)).data.toList = decDigits (bN (iD (cW s))) := by rw [eW, bN_num, numB_list]
    rw [← e]
    unfold iD Lib.trimPrefix
    cases hm2 : Lib.hasPrefix (cW s).data.toList [45]
    · have : iM (cW s) = false := hm2
      rw [this]
      simp
    · have : iM (cW s) = true := hm2
      rw [this]
      have hp : List.isPrefixOf [45] (cW s).data.toList = true := hm2
      obtain ⟨t, ht⟩ := List.isPrefixOf_iff_prefix.1 hp
      rw [← ht]
      simp
  refine ⟨?_, ?_, hm, l1, l2, ?_⟩
  · unfold qG at h3
    cases hS : cS s
    · have : qD s = numB 1 := by unfold qD; rw [hS, numB_one]; rfl
      rw [this, bN_num, Nat.gcd_one_right]
    · rw [hS] at h3
      simpa using h3
  · cases hS : cS s
    · have : qD s = numB 1 := by unfold qD; rw [hS, numB_one]; rfl
      rw [this, bN_num]; omega
    · unfold qB at h1
      rw [hS] at h1
      simp only [Bool.and_eq_true, Bool.or_eq_true, Bool.not_true, Bool.false_eq_true, false_or, decide_eq_true_eq] at h1
      have : qD s = cB s := by unfold qD; rw [if_pos hS]
      rw [this]
      exact formZ h1.2.1.1.2 h1.2.1.2
  · apply ba_ext
    rw [txB_list]
    rcases sl_cases s.data.toList with h4 | ⟨A, B, hA, e⟩
    · have hc := cut_none h4
      have hS : cS s = false := by unfold cS; rw [hc]
      have hq : bN (qD s) = 1 := by
        have : qD s = numB 1 := by unfold qD; rw [hS, numB_one]; rfl
        rw [this, bN_num]
      rw [hq, if_pos rfl, List.append_nil]
      have e1 : (cW s).data.toList = s.data.toList := by unfold cW; rw [hc]
      rw [← es, e1]
    · have hc := cut_at (r := B) hA
      rw [← e] at hc
      have hS : cS s = true := by unfold cS; rw [hc]
      have hB : qD s = cB s := by unfold qD; rw [if_pos hS]
      have e1 : (cW s).data.toList = A := by unfold cW; rw [hc]
      have e2 : (cB s).data.toList = B := by unfold cB; rw [hc]
      have e3 : B = decDigits (bN (qD s)) := by rw [← e2, ← hB, eD, bN_num, numB_list]
      have hne : bN (qD s) ≠ 1 := by
        intro hb
        unfold qB at h1
        rw [hS] at h1
        simp only [Bool.and_eq_true, Bool.or_eq_true, Bool.not_true, Bool.false_eq_true, false_or, decide_eq_true_eq] at h1
        refine h1.2.2 ?_
        rw [← hB, eD, hb, numB_one]
      rw [if_neg hne, ← e3, e, ← List.append_assoc, ← es, e1]
theorem qmk_ok {m : Bool} {n d : Nat} (hg : Nat.gcd n d = 1) (hd : 0 < d) (hm : m = true → n ≠ 0) : decide ((qmk m n d).num < 0) = m ∧ (qmk m n d).num.natAbs = n ∧ (qmk m n d).den = d := by
  have e1 := qmk_num (m := m) (n := n) hd
  have e2 := qmk_den (m := m) (n := n) hd
  rw [hg, Nat.div_one] at e1 e2
  refine ⟨?_, by rw [e1, sgn_natAbs], e2⟩
  rw [e1]
  rcases Nat.eq_zero_or_pos n with rfl | hn
  · cases m
    · rw [sgn_zero]; rfl
    · exact absurd rfl (hm rfl)
  · exact sgn_neg hn
theorem vQ_ok {s : ByteArray} (h : qE s = 0) : decide ((vQ s).num < 0) = iM (cW s) ∧ (vQ s).num.natAbs = bN (iD (cW s)) ∧ (vQ s).den = bN (qD s) := by
  obtain ⟨h1, h2, h3, -⟩ := valid h
  exact qmk_ok h1 h2 h3
def ovQ (q : Rat) : Prop := 4000 < nDigits q.num.natAbs ∨ 4000 < nDigits q.den
instance (q : Rat) : Decidable (ovQ q) := by unfold ovQ; infer_instance
theorem vQ_fits {s : ByteArray} (h : qE s = 0) : ¬ ovQ (vQ s) := by
  obtain ⟨e1, e2, e3⟩ := vQ_ok h
  obtain ⟨-, -, -, l1, l2, -⟩ := valid h
  unfold ovQ
  rw [e2, e3]
  omega
theorem vQ_txQ (q : Rat) : vQ (txQ q) = q := by
  unfold vQ txQ
  rw [iM_tx, bN_iD_tx, bN_qD_tx, qmk_self]
def outB (q : Rat) : ByteArray := if ovQ q then ⟨#[]⟩ else txQ q
def outE (q : Rat) : Int := if ovQ q then 5 else 0
end Go.Proofs.YtccalhlhdiapiaaGreatDoor
namespace Go.Proofs.YtccalhlhdiapiaaGreatDoor
open Go.RowKit
set_option linter.unusedVariables false
set_option maxHeartbeats 4000000 in
theorem r1_PlusF (w : World) (v u : Value) (a b : Nat) (ha : IsN .i64 w v a) (hb : IsN .i64 w u b) (hla : (limbs a).length ≤ 1000000) (hlb : (limbs b).length ≤ 1000000) :
    Calls Tryz.prog 39 #[v, u] w fun e w' => RetFr w.heap.size .i64 (a + b) e w' ∧ Below w.heap.size w w' := by
  obtain ⟨i0, hi, hz0, hz1, hz2⟩ := info_parts info_int
  obtain ⟨a1, c1, rfl, h1, h2, h3⟩ := ha.openI
  obtain ⟨a2, c2, rfl, k1, k2, k3⟩ := hb.openI
  have H3 := hid h3; have K3 := hid k3; clear h3 k3 ha hb
  obtain ⟨n, ea⟩ : ∃ n, (limbs a).length = n := ⟨_, rfl⟩
  obtain ⟨m, eb⟩ : ∃ m, (limbs b).length = m := ⟨_, rfl⟩
  rw [ea] at h1 hla ⊢
  rw [eb] at k1 hlb ⊢
  have HA := hid ea; have HB := hid eb
  clear ea eb
  go_enter Tryz.func39, Tryz.ntmps39
  go_wp2_with fail
  go_loopw [5, 6, 7] (fun o cc i wr => ∃ (s : List Nat) (c : Nat) (C : Int), i = .int .i64 s.length ∧ cc = .int .i64 C ∧ C = (c : Int) ∧ c ≤ 1 ∧ s.length ≤ 1000001 ∧ (s.length ≤ n ∨ s.length ≤ m ∨ c = 0) ∧ Hid (PlusI a b s c) ∧ Hid (wr.ownsRow w.heap.size 3 1 o s.length (ints .i64 s)) ∧ Hid (Below w.heap.size w wr))
    (fun _ _ i _ => 1000002 - (intOf i).toNat)
  case atStart => exact ⟨[], 0, 0, rfl, rfl, rfl, by omega, by simp, .inl (by simp), PlusI.start a b, World.ownsRow_nil _ _ _ _, Below.refl _ _⟩
  case round =>
    obtain ⟨s, c, C, rfl, rfl, hC, hc1, hs1, hs2, hP, hO, hB⟩ := hrel
    obtain ⟨ao, co, rfl⟩ := owns_ex hO.out
    by_cases hA : s.length < n
    · obtain ⟨x, hx⟩ : ∃ x, (limbs a)[s.length]? = some x := ⟨_, List.getElem?_eq_getElem (by rw [HA.out]; exact hA)⟩
      obtain ⟨g, og, rfl, hg, hc⟩ := H3.out _ x hx
      have hc' := (hB.out.cell (p := ⟨g, og + s.length, none⟩) hg).trans hc
      have hxl := (sm_limbs a).get hx
      have HX := hid hx; clear hx hc
      by_cases hB' : s.length < m
      · obtain ⟨y, hy⟩ : ∃ y, (limbs b)[s.length]? = some y := ⟨_, List.getElem?_eq_getElem (by rw [HB.out]; exact hB')⟩
        obtain ⟨g', og', rfl, hg', hd⟩ := K3.out _ y hy
        have hd' := (hB.out.cell (p := ⟨g', og' + s.length, none⟩) hg').trans hd
        have hyl := (sm_limbs b).get hy
        have HY := hid hy; clear hy hd
        rcases (show c = 0 ∨ c = 1 by omega) with rfl | rfl
        · obtain rfl : C = 0 := by omega
          clear hC
          have HN := hid (hP.out.next (by rw [HA.out]; exact .inl hA))
          rw [getD_of HX.out, getD_of HY.out] at HN
          go_wp2_with (at_builtin; refine wpList_append_own _ rfl _ _ 59 rfl w.heap.size 3 i0 (.int .i64 0) 1 8 Tryz.underlying59 hi hz0 hz1 hz2 rfl (by decide) _ s.length _ rfl (hO.out.alloc _) ⟨wr.heap.size, 0, none⟩ 1 1 [.int .i64 ((↑x + ↑y : Int) % 1000000000)] rfl rfl (cell_one_new wr (.int .i64 ((↑x + ↑y : Int) % 1000000000)) 3) (by simp [Value.oneCell']) (by unfold maxLen; omega) (by omega) (by have := hB.out.size; simp; omega) ?_; intro v' w3 hown3 hgrow3 _; have HO3 := hid hown3; have HG3 := hid hgrow3; clear hown3 hgrow3)
          have hz : ((↑x + ↑y : Int) % 1000000000) = (((x + 0 + y) % 1000000000 : Nat) : Int) := by omega
          rw [hz] at HO3
          obtain ⟨n1, n2⟩ := own_next hO.out hB.out HO3.out HG3.out
          have N1 := hid n1; have N2 := hid n2; clear n1 n2 hz HO3 HG3
          obtain ⟨a3, k3, rfl⟩ := owns_ex N1.out
          go_wp2_with fail
          go_roundw
          case rel => exact ⟨s ++ [(x + 0 + y) % 1000000000], (x + 0 + y) / 1000000000, _, by simp, rfl, by omega, HN.out.c1, by simp <;> omega, by simp <;> omega, HN, N1, N2⟩
          case measure => simp [intOf] <;> omega
        · obtain rfl : C = 1 := by omega
          clear hC
          have HN := hid (hP.out.next (by rw [HA.out]; exact .inl hA))
          rw [getD_of HX.out, getD_of HY.out] at HN
          go_wp2_with (at_builtin; refine wpList_append_own _ rfl _ _ 59 rfl w.heap.size 3 i0 (.int .i64 0) 1 8 Tryz.underlying59 hi hz0 hz1 hz2 rfl (by decide) _ s.length _ rfl (hO.out.alloc _) ⟨wr.heap.size, 0, none⟩ 1 1 [.int .i64 ((1 + ↑x + ↑y : Int) % 1000000000)] rfl rfl (cell_one_new wr (.int .i64 ((1 + ↑x + ↑y : Int) % 1000000000)) 3) (by simp [Value.oneCell']) (by unfold maxLen; omega) (by omega) (by have := hB.out.size; simp; omega) ?_; intro v' w3 hown3 hgrow3 _; have HO3 := hid hown3; have HG3 := hid hgrow3; clear hown3 hgrow3)
          have hz : ((1 + ↑x + ↑y : Int) % 1000000000) = (((x + 1 + y) % 1000000000 : Nat) : Int) := by omega
          rw [hz] at HO3
          obtain ⟨n1, n2⟩ := own_next hO.out hB.out HO3.out HG3.out
          have N1 := hid n1; have N2 := hid n2; clear n1 n2 hz HO3 HG3
          obtain ⟨a3, k3, rfl⟩ := owns_ex N1.out
          go_wp2_with fail
          go_roundw
          case rel => exact ⟨s ++ [(x + 1 + y) % 1000000000], (x + 1 + y) / 1000000000, _, by simp, rfl, by omega, HN.out.c1, by simp <;> omega, by simp <;> omega, HN, N1, N2⟩
          case measure => simp [intOf] <;> omega
      · skip
        rcases (show c = 0 ∨ c = 1 by omega) with rfl | rfl
        · obtain rfl : C = 0 := by omega
          clear hC
          have HN := hid (hP.out.next (by rw [HA.out]; exact .inl hA))
          rw [getD_of HX.out, getD_none (by rw [HB.out]; omega)] at HN
          go_wp2_with (at_builtin; refine wpList_append_own _ rfl _ _ 59 rfl w.heap.size 3 i0 (.int .i64 0) 1 8 Tryz.underlying59 hi hz0 hz1 hz2 rfl (by decide) _ s.length _ rfl (hO.out.alloc _) ⟨wr.heap.size, 0, none⟩ 1 1 [.int .i64 ((↑x : Int) % 1000000000)] rfl rfl (cell_one_new wr (.int .i64 ((↑x : Int) % 1000000000)) 3) (by simp [Value.oneCell']) (by unfold maxLen; omega) (by omega) (by have := hB.out.size; simp; omega) ?_; intro v' w3 hown3 hgrow3 _; have HO3 := hid hown3; have HG3 := hid hgrow3; clear hown3 hgrow3)
          have hz : ((↑x : Int) % 1000000000) = (((x + 0 + 0) % 1000000000 : Nat) : Int) := by omega
          rw [hz] at HO3
          obtain ⟨n1, n2⟩ := own_next hO.out hB.out HO3.out HG3.out
          have N1 := hid n1; have N2 := hid n2; clear n1 n2 hz HO3 HG3
          obtain ⟨a3, k3, rfl⟩ := owns_ex N1.out
          go_wp2_with fail
          go_roundw
          case rel => exact ⟨s ++ [(x + 0 + 0) % 1000000000], (x + 0 + 0) / 1000000000, _, by simp, rfl, by omega, HN.out.c1, by simp <;> omega, by simp <;> omega, HN, N1, N2⟩
          case measure => simp [intOf] <;> omega
        · obtain rfl : C = 1 := by omega
          clear hC
          have HN := hid (hP.out.next (by rw [HA.out]; exact .inl hA))
          rw [getD_of HX.out, getD_none (by rw [HB.out]; omega)] at HN
          go_wp2_with (at_builtin; refine wpList_append_own _ rfl _ _ 59 rfl w.heap.size 3 i0 (.int .i64 0) 1 8 Tryz.underlying59 hi hz0 hz1 hz2 rfl (by decide) _ s.length _ rfl (hO.out.alloc _) ⟨wr.heap.size, 0, none⟩ 1 1 [.int .i64 ((1 + ↑x : Int) % 1000000000)] rfl rfl (cell_one_new wr (.int .i64 ((1 + ↑x : Int) % 1000000000)) 3) (by simp [Value.oneCell']) (by unfold maxLen; omega) (by omega) (by have := hB.out.size; simp; omega) ?_; intro v' w3 hown3 hgrow3 _; have HO3 := hid hown3; have HG3 := hid hgrow3; clear hown3 hgrow3)
          have hz : ((1 + ↑x : Int) % 1000000000) = (((x + 1 + 0) % 1000000000 : Nat) : Int) := by omega
          rw [hz] at HO3
          obtain ⟨n1, n2⟩ := own_next hO.out hB.out HO3.out HG3.out
          have N1 := hid n1; have N2 := hid n2; clear n1 n2 hz HO3 HG3
          obtain ⟨a3, k3, rfl⟩ := owns_ex N1.out
          go_wp2_with fail
          go_roundw
          case rel => exact ⟨s ++ [(x + 1 + 0) % 1000000000], (x + 1 + 0) / 1000000000, _, by simp, rfl, by omega, HN.out.c1, by simp <;> omega, by simp <;> omega, HN, N1, N2⟩
          case measure => simp [intOf] <;> omega
    · skip
      by_cases hB' : s.length < m
      · obtain ⟨y, hy⟩ : ∃ y, (limbs b)[s.length]? = some y := ⟨_, List.getElem?_eq_getElem (by rw [HB.out]; exact hB')⟩
        obtain ⟨g', og', rfl, hg', hd⟩ := K3.out _ y hy
        have hd' := (hB.out.cell (p := ⟨g', og' + s.length, none⟩) hg').trans hd
        have hyl := (sm_limbs b).get hy
        have HY := hid hy; clear hy hd
        rcases (show c = 0 ∨ c = 1 by omega) with rfl | rfl
        · obtain rfl : C = 0 := by omega
          clear hC
          have HN := hid (hP.out.next (by rw [HB.out]; exact .inr (.inl hB')))
          rw [getD_none (by rw [HA.out]; omega), getD_of HY.out] at HN
          go_wp2_with (at_builtin; refine wpList_append_own _ rfl _ _ 59 rfl w.heap.size 3 i0 (.int .i64 0) 1 8 Tryz.underlying59 hi hz0 hz1 hz2 rfl (by decide) _ s.length _ rfl (hO.out.alloc _) ⟨wr.heap.size, 0, none⟩ 1 1 [.int .i64 ((↑y : Int) % 1000000000)] rfl rfl (cell_one_new wr (.int .i64 ((↑y : Int) % 1000000000)) 3) (by simp [Value.oneCell']) (by unfold maxLen; omega) (by omega) (by have := hB.out.size; simp; omega) ?_; intro v' w3 hown3 hgrow3 _; have HO3 := hid hown3; have HG3 := hid hgrow3; clear hown3 hgrow3)
          have hz : ((↑y : Int) % 1000000000) = (((0 + 0 + y) % 1000000000 : Nat) : Int) := by omega
          rw [hz] at HO3
          obtain ⟨n1, n2⟩ := own_next hO.out hB.out HO3.out HG3.out
          have N1 := hid n1; have N2 := hid n2; clear n1 n2 hz HO3 HG3
          obtain ⟨a3, k3, rfl⟩ := owns_ex N1.out
          go_wp2_with fail
          go_roundw
          case rel => exact ⟨s ++ [(0 + 0 + y) % 1000000000], (0 + 0 + y) / 1000000000, _, by simp, rfl, by omega, HN.out.c1, by simp <;> omega, by simp <;> omega, HN, N1, N2⟩
          case measure => simp [intOf] <;> omega
        · obtain rfl : C = 1 := by omega
          clear hC
          have HN := hid (hP.out.next (by rw [HB.out]; exact .inr (.inl hB')))
          rw [getD_none (by rw [HA.out]; omega), getD_of HY.out] at HN
          go_wp2_with (at_builtin; refine wpList_append_own _ rfl _ _ 59 rfl w.heap.size 3 i0 (.int .i64 0) 1 8 Tryz.underlying59 hi hz0 hz1 hz2 rfl (by decide) _ s.length _ rfl (hO.out.alloc _) ⟨wr.heap.size, 0, none⟩ 1 1 [.int .i64 ((1 + ↑y : Int) % 1000000000)] rfl rfl (cell_one_new wr (.int .i64 ((1 + ↑y : Int) % 1000000000)) 3) (by simp [Value.oneCell']) (by unfold maxLen; omega) (by omega) (by have := hB.out.size; simp; omega) ?_; intro v' w3 hown3 hgrow3 _; have HO3 := hid hown3; have HG3 := hid hgrow3; clear hown3 hgrow3)
          have hz : ((1 + ↑y : Int) % 1000000000) = (((0 + 1 + y) % 1000000000 : Nat) : Int) := by omega
          rw [hz] at HO3
          obtain ⟨n1, n2⟩ := own_next hO.out hB.out HO3.out HG3.out
          have N1 := hid n1; have N2 := hid n2; clear n1 n2 hz HO3 HG3
          obtain ⟨a3, k3, rfl⟩ := owns_ex N1.out
          go_wp2_with fail
          go_roundw
          case rel => exact ⟨s ++ [(0 + 1 + y) % 1000000000], (0 + 1 + y) / 1000000000, _, by simp, rfl, by omega, HN.out.c1, by simp <;> omega, by simp <;> omega, HN, N1, N2⟩
          case measure => simp [intOf] <;> omega
      · skip
        rcases (show c = 0 ∨ c = 1 by omega) with rfl | rfl
        · obtain rfl : C = 0 := by omega
          clear hC
          have hs := hid (hP.out.done (by rw [HA.out]; exact hA) (by rw [HB.out]; exact hB') rfl)
          go_wp2_with fail
          go_ret
          exact ⟨⟨_, rfl, owns_isN hO.out hs.out, fun g hg => (hO.out.lt g hg).1⟩, hB.out⟩
        · obtain rfl : C = 1 := by omega
          clear hC
          have HN := hid (hP.out.next (by exact .inr (.inr (by omega))))
          rw [getD_none (by rw [HA.out]; omega), getD_none (by rw [HB.out]; omega)] at HN
          go_wp2_with (at_builtin; refine wpList_append_own _ rfl _ _ 59 rfl w.heap.size 3 i0 (.int .i64 0) 1 8 Tryz.underlying59 hi hz0 hz1 hz2 rfl (by decide) _ s.length _ rfl (hO.out.alloc _) ⟨wr.heap.size, 0, none⟩ 1 1 [.int .i64 (1)] rfl rfl (cell_one_new wr (.int .i64 (1)) 3) (by simp [Value.oneCell']) (by unfold maxLen; omega) (by omega) (by have := hB.out.size; simp; omega) ?_; intro v' w3 hown3 hgrow3 _; have HO3 := hid hown3; have HG3 := hid hgrow3; clear hown3 hgrow3)
          have hz : (1) = (((0 + 1 + 0) % 1000000000 : Nat) : Int) := by omega
          rw [hz] at HO3
          obtain ⟨n1, n2⟩ := own_next hO.out hB.out HO3.out HG3.out
          have N1 := hid n1; have N2 := hid n2; clear n1 n2 hz HO3 HG3
          obtain ⟨a3, k3, rfl⟩ := owns_ex N1.out
          go_wp2_with fail
          go_roundw
          case rel => exact ⟨s ++ [(0 + 1 + 0) % 1000000000], (0 + 1 + 0) / 1000000000, _, by simp, rfl, by omega, HN.out.c1, by simp <;> omega, by simp <;> omega, HN, N1, N2⟩
          case measure => simp [intOf] <;> omega
end Go.Proofs.YtccalhlhdiapiaaGreatDoor
namespace Go.Proofs.YtccalhlhdiapiaaGreatDoor
open Go.RowKit
set_option linter.unusedVariables false
theorem r2_digits (w : World) (s : ByteArray) (hs : s.size ≤ 9223372036854775807) : Calls Tryz.prog 116 #[.string s] w fun e w' =>
    e = .returned (.bool (formB s.data.toList)) ∧ w = w' := by
  by_cases hf : formB s.data.toList = true
  · by_cases hl : 4000 < s.data.toList.length
    · have H5 := hid (show errN s.data.toList = 5 from by rw [errN, if_pos hf, if_pos hl])
      have HF := hid hf
      rw [hf]
      clear hf hl
      go_enter Tryz.func116, Tryz.ntmps116
      go_wp2_with fail
      refine (r1_Check _ s hs).mono ?_; rintro e w1 ⟨rfl, rfl⟩
      rw [H5.out]
      go_wp2_with fail
      go_ret
      exact ⟨rfl, rfl⟩
    · have H5 := hid (show errN s.data.toList = 0 from by rw [errN, if_pos hf, if_neg hl])
      have HF := hid hf
      rw [hf]
      clear hf hl
      go_enter Tryz.func116, Tryz.ntmps116
      go_wp2_with fail
      refine (r1_Check _ s hs).mono ?_; rintro e w1 ⟨rfl, rfl⟩
      rw [H5.out]
      go_wp2_with fail
      go_ret
      exact ⟨rfl, rfl⟩
  · have H5 := hid (show errN s.data.toList = 3 from by rw [errN, if_neg hf])
    have hf' : formB s.data.toList = false := by simpa using hf
    rw [hf']
    clear hf hf'
    go_enter Tryz.func116, Tryz.ntmps116
    go_wp2_with fail
    refine (r1_Check _ s hs).mono ?_; rintro e w1 ⟨rfl, rfl⟩
    rw [H5.out]
    go_wp2_with fail
    go_ret
    exact ⟨rfl, rfl⟩
end Go.Proofs.YtccalhlhdiapiaaGreatDoor
namespace Go.Proofs.YtccalhlhdiapiaaGreatDoor
open Go.RowKit
set_option linter.unusedVariables false
def isSlash (l : List UInt8) (k : Nat) : Prop := k ≤ l.length ∧ (∀ (j : Nat) (b : UInt8), j < k → l[j]? = some b → b ≠ 47) ∧ (k < l.length → l[k]? = some 47)
theorem r2_slash (w : World) (s : ByteArray) (hs : s.size ≤ 9223372036854775807) : Calls Tryz.prog 115 #[.string s] w fun e w' =>
    (∃ k : Nat, e = .returned (.int .i64 k) ∧ isSlash s.data.toList k) ∧ w = w' := by
  have hsl := hid (show s.data.toList.length = s.size from by simp)
  go_enter Tryz.func115, Tryz.ntmps115
  go_wp2_with fail
  go_loop [3] (fun ii => ∃ i : Nat, ii = .int .i64 i ∧ i ≤ s.size ∧ Hid (∀ (j : Nat) (b : UInt8), j < i → s.data.toList[j]? = some b → b ≠ 47)) (fun ii => s.size - (intOf ii).toNat)
  case atStart => exact ⟨0, rfl, Nat.zero_le _, fun j b hj => absurd hj (by omega)⟩
  case round =>
    obtain ⟨i, rfl, hi, hI⟩ := hrel
    by_cases hlt : i < s.size
    · have hb := hid (byte_get hlt)
      by_cases c1 : s[i] = 47
      · have q1 : ((s[i].toNat : Int) == 47) = true := by rw [c1]; rfl
        have hB := hid c1
        clear c1
        go_wp2_with fail
        go_ret
        exact ⟨⟨i, rfl, by rw [hsl.out]; omega, hI.out, fun _ => by rw [hb.out, hB.out]⟩, rfl⟩
      · have q1 : ((s[i].toNat : Int) == 47) = false := by
          rw [beq_eq_false_iff_ne]
          intro e
          refine c1 ?_
          have : s[i].toNat = (47 : UInt8).toNat := by simp; omega
          exact UInt8.toNat_inj.1 this
        have hB := hid c1
        clear c1
        go_wp2_with fail
        go_round
        case rel => exact ⟨i + 1, by go_num, by omega, fun j b hj hjb => by
          by_cases e : j = i
          · subst e; rw [hb.out] at hjb; cases hjb; exact hB.out
          · exact hI.out j b (by omega) hjb⟩
        case measure => simp [intOf] <;> omega
    · have e1 : i = s.size := by omega
      subst e1
      go_wp2_with fail
      go_ret
      exact ⟨⟨s.size, rfl, by rw [hsl.out]; omega, hI.out, fun h => by rw [hsl.out] at h; omega⟩, rfl⟩
end Go.Proofs.YtccalhlhdiapiaaGreatDoor
namespace Go.Proofs.YtccalhlhdiapiaaGreatDoor
open Go.RowKit
set_option linter.unusedVariables false
theorem r2_integer_minus (w : World) (s : ByteArray) (hs : s.size ≤ 9223372036854775807) (h0 : 0 < s.size) (h1 : s[0] = 45) : Calls Tryz.prog 82 #[.string s] w fun e w' =>
    e = .returned (.tuple #[.bool true, .string (s.extract 1 s.size), .bool (formB (s.extract 1 s.size).data.toList && !decide ((s.extract 1 s.size).data.toList = [48]))]) ∧ w = w' := by
  have q0 : decide ((0 : Int) < (s.size : Int)) = true := by simp; omega
  have q1 : ((s[0].toNat : Int) == 45) = true := by rw [h1]; rfl
  have H0 := hid h1
  clear h1
  have hts : (s.extract 1 s.size).size ≤ 9223372036854775807 := by simp; omega
  obtain ⟨t, ht⟩ : ∃ t, s.extract 1 s.size = t := ⟨_, rfl⟩
  rw [ht] at hts ⊢
  have HT := hid ht
  obtain ⟨f, hf⟩ : ∃ f, formB t.data.toList = f := ⟨_, rfl⟩
  rw [hf]
  have HF := hid hf
  clear ht hf
  go_enter Tryz.func82, Tryz.ntmps82
  go_wp2_with fail
  rw [HT.out]
  refine (r2_digits _ t hts).mono ?_; rintro e w1 ⟨rfl, rfl⟩
  rw [HF.out]
  cases f
  · go_wp2_with fail
    exact bodyPost_ret (v := .tuple #[.bool true, .string t, .bool false]) (by simp [results, Tryz.results82, go_sem]) rfl ⟨by simp, rfl⟩
  · go_wp2_with fail
    refine bodyPost_ret (v := .tuple #[.bool true, .string t, .bool (!(t.toList == [48]))]) (by simp [results, Tryz.results82, go_sem]) rfl ⟨?_, rfl⟩
    rw [Go.ByteArray.toList_eq]
    simp
    exact Bool.eq_iff_iff.2 (by simp)
theorem r2_integer_plain (w : World) (s : ByteArray) (hs : s.size ≤ 9223372036854775807) (h1 : ∀ h : 0 < s.size, s[0] ≠ 45) : Calls Tryz.prog 82 #[.string s] w fun e w' =>
    e = .returned (.tuple #[.bool false, .string s, .bool (formB s.data.toList)]) ∧ w = w' := by
  obtain ⟨f, hf⟩ : ∃ f, formB s.data.toList = f := ⟨_, rfl⟩
  rw [hf]
  have HF := hid hf
  clear hf
  by_cases h0 : 0 < s.size
  · have q0 : decide ((0 : Int) < (s.size : Int)) = true := by simp; omega
    have q1 : ((s[0].toNat : Int) == 45) = false := by
      rw [beq_eq_false_iff_ne]
      intro e
      refine h1 h0 ?_
      have : s[0].toNat = (45 : UInt8).toNat := by simp; omega
      exact UInt8.toNat_inj.1 this
    clear h1
    go_enter Tryz.func82, Tryz.ntmps82
    go_wp2_with fail
    refine (r2_digits _ s hs).mono ?_; rintro e w1 ⟨rfl, rfl⟩
    rw [HF.out]
    cases f
    all_goals
      go_wp2_with fail
      exact bodyPost_ret (v := .tuple #[.bool false, .string s, .bool _]) (by simp [results, Tryz.results82, go_sem]) rfl ⟨rfl, rfl⟩
  · obtain rfl : s = ⟨#[]⟩ := by
      apply ByteArray.ext
      exact Array.eq_empty_of_size_eq_zero (by have : s.data.size = s.size := rfl; omega)
    clear h1 h0 hs
    go_enter Tryz.func82, Tryz.ntmps82
    go_wp2_with fail
    refine (r2_digits _ ⟨#[]⟩ (Nat.zero_le _)).mono ?_; rintro e w1 ⟨rfl, rfl⟩
    rw [HF.out]
    cases f
    all_goals
      go_wp2_with fail
      exact bodyPost_ret (v := .tuple #[.bool false, .string ⟨#[]⟩, .bool _]) (by simp [results, Tryz.results82, go_sem]) rfl ⟨rfl, rfl⟩
end Go.Proofs.YtccalhlhdiapiaaGreatDoor
namespace Go.Proofs.YtccalhlhdiapiaaGreatDoor
open Go.RowKit
open Go.Lib (decDigits nDigits)
set_option linter.unusedVariables false
theorem ba_list_iff {a b : ByteArray} : a.data.toList = b.data.toList ↔ a = b := ⟨ba_ext, fun e => by rw [e]⟩
theorem r2_integer (w : World) (s : ByteArray) (hs : s.size ≤ 9223372036854775807) : Calls Tryz.prog 82 #[.string s] w fun e w' =>
    e = .returned (.tuple #[.bool (iM s), .string (iD s), .bool (iB s)]) ∧ w = w' := by
  have hl : s.data.toList.length = s.size := by simp
  by_cases h : ∃ h0 : 0 < s.size, s[0] = 45
  · obtain ⟨h0, h1⟩ := h
    have hg := byte_get h0
    rw [h1] at hg
    obtain ⟨t, ht⟩ : ∃ t, s.data.toList = 45 :: t := by
      cases hc : s.data.toList with
      | nil => rw [hc] at hg; simp at hg
      | cons b t => rw [hc] at hg; simp at hg; exact ⟨t, by rw [hg]⟩
    have hM : iM s = true := by unfold iM Lib.hasPrefix; rw [ht]; simp [List.isPrefixOf]
    have hD : iD s = s.extract 1 s.size := by
      apply ba_ext
      rw [extract_list, ht]
      unfold iD Lib.trimPrefix
      rw [show Lib.hasPrefix s.data.toList [45] = true from hM, ht]
      have : s.size = t.length + 1 := by rw [← hl, ht]; simp
      simp [this]
    have H := r2_integer_minus w s hs h0 h1
    rw [← hD] at H
    have e : iB s = (formB (iD s).data.toList && !decide ((iD s).data.toList = [48])) := by
      unfold iB fB
      rw [hM, Bool.true_and]
      have : decide (iD s = ⟨#[48]⟩) = decide ((iD s).data.toList = [48]) := decide_eq_decide.2 (by rw [← ba_list_iff])
      rw [this]
    rw [hM, e]
    exact H
  · have h1 : ∀ h : 0 < s.size, s[0] ≠ 45 := fun h0 e => h ⟨h0, e⟩
    have hM : iM s = false := by
      unfold iM Lib.hasPrefix
      cases hc : s.data.toList with
      | nil => rfl
      | cons b t =>
        have h0 : 0 < s.size := by rw [← hl, hc]; simp
        have hg := byte_get h0
        rw [hc] at hg
        simp at hg
        have h3 : ((45 : UInt8) == b) = false := by rw [beq_eq_false_iff_ne, hg]; exact fun e => h1 h0 e.symm
        simp [List.isPrefixOf, h3]
    have hD : iD s = s := by
      apply ba_ext
      unfold iD Lib.trimPrefix
      rw [show Lib.hasPrefix s.data.toList [45] = false from hM]
      simp
    have H := r2_integer_plain w s hs h1
    have e : iB s = formB s.data.toList := by unfold iB fB; rw [hM, hD]; simp
    rw [hM, hD, e]
    exact H
theorem slash_cut {s : ByteArray} {k : Nat} (h : isSlash s.data.toList k) : k ≤ s.size ∧ cW s = s.extract 0 k ∧ cS s = decide (k < s.size) ∧ (k < s.size → cB s = s.extract (k + 1) s.size) := by
  obtain ⟨h1, h2, h3⟩ := h
  have hl : s.data.toList.length = s.size := by simp
  rcases sl_cases s.data.toList with hn | ⟨A, B, hA, e⟩
  · have hk : k = s.size := by
      rcases Nat.lt_or_ge k s.data.toList.length with hlt | hge
      · exact absurd rfl (hn 47 (List.mem_of_getElem? (h3 hlt)))
      · omega
    have hc := cut_none hn
    subst hk
    refine ⟨Nat.le_refl _, ?_, ?_, fun h => absurd h (Nat.lt_irrefl _)⟩
    · apply ba_ext; rw [extract_list]; unfold cW; rw [hc, List.drop_zero, Nat.sub_zero, ← hl, List.take_length]
    · unfold cS; rw [hc]; simp
  · have hL : s.data.toList.length = A.length + 1 + B.length := by rw [e]; simp; omega
    have hk : k = A.length := by
      rcases Nat.lt_trichotomy k A.length with hlt | heq | hgt
      · have := h3 (by omega)
        rw [e, List.getElem?_append_left hlt] at this
        exact absurd rfl (hA 47 (List.mem_of_getElem? this))
      · exact heq
      · exact absurd rfl (h2 A.length 47 hgt (by rw [e]; simp))
    have hc := cut_at (r := B) hA
    rw [← e] at hc
    subst hk
    refine ⟨by omega, ?_, ?_, fun _ => ?_⟩
    · apply ba_ext; rw [extract_list, e]; unfold cW; rw [hc]; simp
    · unfold cS; rw [hc]; simp; omega
    · apply ba_ext; rw [extract_list]; unfold cB; rw [hc]
      have : s.size - (A.length + 1) = B.length := by omega
      rw [this, e, show A ++ 47 :: B = (A ++ [47]) ++ B by simp, List.drop_left' (by simp), List.take_length]
end Go.Proofs.YtccalhlhdiapiaaGreatDoor
namespace Go.Proofs.YtccalhlhdiapiaaGreatDoor
open Go.RowKit
open Go.Lib (decDigits nDigits)
set_option linter.unusedVariables false
def NoInt (cs : Array Value) : Prop := ∀ (i : Nat) (k : IntKind) (x : Int), cs[i]? ≠ some (.int k x)
theorem NoInt.three (m : Bool) (a b : Option Addr) (n c n' c' : Nat) : NoInt #[.bool m, .slice a n c, .slice b n' c'] := by
  intro i k x h
  rcases i with _ | _ | _ | i <;> simp at h
theorem IsN.setQ {k : IntKind} {w : World} {v : Value} {n b : Nat} {cs : Array Value} {t : TypeId} (h : IsN k w v n) (hb : Blk w b cs t) (hc : NoInt cs) (j : Nat) (u : Value) : IsN k (w.setCell ⟨b, j, none⟩ u) v n := by
  obtain ⟨a, c, rfl, h1, h2, h3⟩ := h.ex
  refine ⟨a, c, rfl, h1, h2, fun i x hx => ?_⟩
  obtain ⟨g, o, e, hg, hcell⟩ := h3 i x hx
  refine ⟨g, o, e, by simpa [World.setCell] using hg, ?_⟩
  have hne : g ≠ b := by
    rintro rfl
    rw [hb.cell] at hcell
    have : x ∈ ints k (limbs n) := List.mem_of_getElem? hx
    obtain ⟨y, _, rfl⟩ := List.mem_map.1 this
    exact hc _ _ _ hcell
  rw [← hcell]
  unfold World.cell?
  rw [Below.heap_setCell _ _ _ _ (by simpa using hne)]
theorem set3 {w : World} {b : Nat} {m0 : Bool} {a0 b0 : Option Addr} {n0 c0 n1 c1 : Nat} {t : TypeId} (hb : Blk w b #[.bool m0, .slice a0 n0 c0, .slice b0 n1 c1] t) (m : Bool) (a a' : Option Addr) (n c n' c' : Nat) :
    (∀ (k : IntKind) (v : Value) (x : Nat), IsN k w v x → IsN k (((w.setCell ⟨b, 0, none⟩ (.bool m)).setCell ⟨b, 1, none⟩ (.slice a n c)).setCell ⟨b, 2, none⟩ (.slice a' n' c')) v x) ∧
    Blk (((w.setCell ⟨b, 0, none⟩ (.bool m)).setCell ⟨b, 1, none⟩ (.slice a n c)).setCell ⟨b, 2, none⟩ (.slice a' n' c')) b #[.bool m, .slice a n c, .slice a' n' c'] t := by
  have h1 := hb.set 0 (.bool m)
  have h2 := h1.set 1 (.slice a n c)
  have h3 := h2.set 2 (.slice a' n' c')
  simp at h1 h2 h3
  refine ⟨fun k v x h => ?_, h3⟩
  exact ((h.setQ hb (NoInt.three _ _ _ _ _ _ _) 0 _).setQ h1 (NoInt.three _ _ _ _ _ _ _) 1 _).setQ h2 (NoInt.three _ _ _ _ _ _ _) 2 _
end Go.Proofs.YtccalhlhdiapiaaGreatDoor
namespace Go.Proofs.YtccalhlhdiapiaaGreatDoor
open Go.RowKit
open Go.Lib (decDigits nDigits)
set_option linter.unusedVariables false
set_option linter.unusedSimpArgs false
def WrKey (m : Bool) (B1 B2 T : ByteArray) (x : Int) : Prop :=
  (4000 < B1.size ∧ T = ⟨#[]⟩ ∧ x = 5) ∨ (B1.size ≤ 4000 ∧ 4000 < B2.size ∧ T = ⟨#[]⟩ ∧ x = 5) ∨
  (B1.size ≤ 4000 ∧ B2.size ≤ 4000 ∧ x = 0 ∧ ((m = false ∧ B2 = ⟨#[49]⟩ ∧ T = B1) ∨ (m = true ∧ B2 = ⟨#[49]⟩ ∧ T = ⟨#[45]⟩ ++ B1) ∨ (m = false ∧ ¬ B2 = ⟨#[49]⟩ ∧ T = B1 ++ ⟨#[47]⟩ ++ B2) ∨ (m = true ∧ ¬ B2 = ⟨#[49]⟩ ∧ T = ⟨#[45]⟩ ++ B1 ++ ⟨#[47]⟩ ++ B2)))
set_option maxRecDepth 100000 in
set_option maxHeartbeats 4000000 in
theorem r2_Write_walk (w : World) (m : Bool) (N D : Value) (n d : Nat) (B1 B2 T : ByteArray) (x : Int) (hn : IsN .i64 w N n) (hd : IsN .i64 w D d) (hln : (limbs n).length ≤ 1000000) (hld : (limbs d).length ≤ 1000000)
    (e1 : numB n = B1) (e2 : numB d = B2) (key : WrKey m B1 B2 T x) :
    Calls Tryz.prog 51 #[.agg #[.bool m, N, D]] w fun e w' => e = .returned (.tuple #[.string T, .int .i64 x]) ∧ Below w.heap.size w w' := by
  have HN := hid hn; have HD := hid hd; have LN := hid hln; have LD := hid hld; have E1 := hid e1; have E2 := hid e2
  obtain ⟨a1, c1, rfl, _⟩ := hn.openI
  obtain ⟨a2, c2, rfl, _⟩ := hd.openI
  obtain ⟨k1, hk1⟩ : ∃ k, (limbs n).length = k := ⟨_, rfl⟩
  obtain ⟨k2, hk2⟩ : ∃ k, (limbs d).length = k := ⟨_, rfl⟩
  rw [hk1] at HN ⊢
  rw [hk2] at HD ⊢
  clear hn hd hln hld e1 e2 hk1 hk2
  unfold WrKey at key
  rcases key with ⟨h1, rfl, rfl⟩ | ⟨h1, h2, rfl, rfl⟩ | ⟨h1, h2, rfl, ⟨rfl, rfl, rfl⟩ | ⟨rfl, rfl, rfl⟩ | ⟨rfl, h3, rfl⟩ | ⟨rfl, h3, rfl⟩⟩
  · have q0 : decide ((4000 : Int) < (B1.size : Int)) = true := by simp; omega
    clear h1
    go_enter Tryz.func51, Tryz.ntmps51
    go_wp2_with fail
    obtain ⟨W, hW⟩ : ∃ W, w.alloc (.cells #[.bool m, .slice a1 k1 c1, .slice a2 k2 c2] 68) = W := ⟨_, rfl⟩
    rw [hW]
    have X0 : Below w.heap.size w W := by rw [← hW]; exact (Below.refl _ _).alloc (Nat.le_refl _) _
    have Y0 : Blk W w.heap.size #[.bool m, .slice a1 k1 c1, .slice a2 k2 c2] 68 := by rw [← hW]; exact Blk.new w _ _
    have K : Hid (∀ w', Below W.heap.size W w' → w'.cell? ⟨w.heap.size, 0, none⟩ = some (.bool m) ∧ w'.cell? ⟨w.heap.size, 1, none⟩ = some (.slice a1 k1 c1) ∧ w'.cell? ⟨w.heap.size, 2, none⟩ = some (.slice a2 k2 c2)) :=
      fun w' hb => ⟨(Y0.call hb).cell 0, (Y0.call hb).cell 1, (Y0.call hb).cell 2⟩
    have HX0 := hid X0
    obtain ⟨k0, k1', k2'⟩ := K W (Below.refl _ _)
    have XN := hid (HN.out.call HX0.out); have XD := hid (HD.out.call HX0.out)
    clear Y0 X0 hW
    go_region_held3 (fun w' => w'.cell? ⟨w.heap.size, 0, none⟩ = some (.bool m) ∧ w'.cell? ⟨w.heap.size, 1, none⟩ = some (.slice a1 k1 c1) ∧ w'.cell? ⟨w.heap.size, 2, none⟩ = some (.slice a2 k2 c2))
      (first
        | exact K.out _ (Below.refl _ _).drew
        | exact K.out _ bb2.out
        | exact K.out _ bb1.out)
      (first
        | (go_at_call_of 43 (Value.slice a1 k1 c1); refine (r1_Write _ _ n (XN.out.call (by first | exact bb2.out | exact (Below.refl _ _).drew)) LN.out).mono ?_; rintro e w1 ⟨rfl, hb1⟩; rw [numV_eq, E1.out]; have bb1 := hid (bnext (by first | exact bb2.out | exact (Below.refl _ _).drew) hb1))
        | (go_at_call_of 43 (Value.slice a2 k2 c2); refine (r1_Write _ _ d (XD.out.call (by first | exact bb1.out | exact (Below.refl _ _).drew)) LD.out).mono ?_; rintro e w2 ⟨rfl, hb2⟩; rw [numV_eq, E2.out]; have bb2 := hid (bnext (by first | exact bb1.out | exact (Below.refl _ _).drew) hb2)))
    go_wp2_with fail
    go_ret2
    exact ⟨rfl, bnext HX0.out bb2.out⟩
  · have q0 : decide ((4000 : Int) < (B1.size : Int)) = false := by simp; omega
    have q1 : decide ((4000 : Int) < (B2.size : Int)) = true := by simp; omega
    clear h1 h2
    go_enter Tryz.func51, Tryz.ntmps51
    go_wp2_with fail
    obtain ⟨W, hW⟩ : ∃ W, w.alloc (.cells #[.bool m, .slice a1 k1 c1, .slice a2 k2 c2] 68) = W := ⟨_, rfl⟩
    rw [hW]
    have X0 : Below w.heap.size w W := by rw [← hW]; exact (Below.refl _ _).alloc (Nat.le_refl _) _
    have Y0 : Blk W w.heap.size #[.bool m, .slice a1 k1 c1, .slice a2 k2 c2] 68 := by rw [← hW]; exact Blk.new w _ _
    have K : Hid (∀ w', Below W.heap.size W w' → w'.cell? ⟨w.heap.size, 0, none⟩ = some (.bool m) ∧ w'.cell? ⟨w.heap.size, 1, none⟩ = some (.slice a1 k1 c1) ∧ w'.cell? ⟨w.heap.size, 2, none⟩ = some (.slice a2 k2 c2)) :=
      fun w' hb => ⟨(Y0.call hb).cell 0, (Y0.call hb).cell 1, (Y0.call hb).cell 2⟩
    have HX0 := hid X0
    obtain ⟨k0, k1', k2'⟩ := K W (Below.refl _ _)
    have XN := hid (HN.out.call HX0.out); have XD := hid (HD.out.call HX0.out)
    clear Y0 X0 hW
    go_region_held3 (fun w' => w'.cell? ⟨w.heap.size, 0, none⟩ = some (.bool m) ∧ w'.cell? ⟨w.heap.size, 1, none⟩ = some (.slice a1 k1 c1) ∧ w'.cell? ⟨w.heap.size, 2, none⟩ = some (.slice a2 k2 c2))
      (first
        | exact K.out _ (Below.refl _ _).drew
        | exact K.out _ bb2.out
        | exact K.out _ bb1.out)
      (first
        | (go_at_call_of 43 (Value.slice a1 k1 c1); refine (r1_Write _ _ n (XN.out.call (by first | exact bb2.out | exact (Below.refl _ _).drew)) LN.out).mono ?_; rintro e w1 ⟨rfl, hb1⟩; rw [numV_eq, E1.out]; have bb1 := hid (bnext (by first | exact bb2.out | exact (Below.refl _ _).drew) hb1))
        | (go_at_call_of 43 (Value.slice a2 k2 c2); refine (r1_Write _ _ d (XD.out.call (by first | exact bb1.out | exact (Below.refl _ _).drew)) LD.out).mono ?_; rintro e w2 ⟨rfl, hb2⟩; rw [numV_eq, E2.out]; have bb2 := hid (bnext (by first | exact bb1.out | exact (Below.refl _ _).drew) hb2)))
    go_wp2_with fail
    go_ret2
    exact ⟨rfl, bnext HX0.out bb2.out⟩
  · have q0 : decide ((4000 : Int) < (T.size : Int)) = false := by simp; omega
    clear h2
    go_enter Tryz.func51, Tryz.ntmps51
    go_wp2_with fail
    obtain ⟨W, hW⟩ : ∃ W, w.alloc (.cells #[.bool false, .slice a1 k1 c1, .slice a2 k2 c2] 68) = W := ⟨_, rfl⟩
    rw [hW]
    have X0 : Below w.heap.size w W := by rw [← hW]; exact (Below.refl _ _).alloc (Nat.le_refl _) _
    have Y0 : Blk W w.heap.size #[.bool false, .slice a1 k1 c1, .slice a2 k2 c2] 68 := by rw [← hW]; exact Blk.new w _ _
    have K : Hid (∀ w', Below W.heap.size W w' → w'.cell? ⟨w.heap.size, 0, none⟩ = some (.bool false) ∧ w'.cell? ⟨w.heap.size, 1, none⟩ = some (.slice a1 k1 c1) ∧ w'.cell? ⟨w.heap.size, 2, none⟩ = some (.slice a2 k2 c2)) :=
      fun w' hb => ⟨(Y0.call hb).cell 0, (Y0.call hb).cell 1, (Y0.call hb).cell 2⟩
    have HX0 := hid X0
    obtain ⟨k0, k1', k2'⟩ := K W (Below.refl _ _)
    have XN := hid (HN.out.call HX0.out); have XD := hid (HD.out.call HX0.out)
    clear Y0 X0 hW
    go_region_held3 (fun w' => w'.cell? ⟨w.heap.size, 0, none⟩ = some (.bool false) ∧ w'.cell? ⟨w.heap.size, 1, none⟩ = some (.slice a1 k1 c1) ∧ w'.cell? ⟨w.heap.size, 2, none⟩ = some (.slice a2 k2 c2))
      (first
        | exact K.out _ (Below.refl _ _).drew
        | exact K.out _ bb2.out
        | exact K.out _ bb1.out)
      (first
        | (go_at_call_of 43 (Value.slice a1 k1 c1); refine (r1_Write _ _ n (XN.out.call (by first | exact bb2.out | exact (Below.refl _ _).drew)) LN.out).mono ?_; rintro e w1 ⟨rfl, hb1⟩; rw [numV_eq, E1.out]; have bb1 := hid (bnext (by first | exact bb2.out | exact (Below.refl _ _).drew) hb1))
        | (go_at_call_of 43 (Value.slice a2 k2 c2); refine (r1_Write _ _ d (XD.out.call (by first | exact bb1.out | exact (Below.refl _ _).drew)) LD.out).mono ?_; rintro e w2 ⟨rfl, hb2⟩; rw [numV_eq, E2.out]; have bb2 := hid (bnext (by first | exact bb1.out | exact (Below.refl _ _).drew) hb2)))
    go_wp2_with fail
    go_ret2
    exact ⟨rfl, bnext HX0.out bb2.out⟩
  · have q0 : decide ((4000 : Int) < (B1.size : Int)) = false := by simp; omega
    clear h2
    go_enter Tryz.func51, Tryz.ntmps51
    go_wp2_with fail
    obtain ⟨W, hW⟩ : ∃ W, w.alloc (.cells #[.bool true, .slice a1 k1 c1, .slice a2 k2 c2] 68) = W := ⟨_, rfl⟩
    rw [hW]
    have X0 : Below w.heap.size w W := by rw [← hW]; exact (Below.refl _ _).alloc (Nat.le_refl _) _
    have Y0 : Blk W w.heap.size #[.bool true, .slice a1 k1 c1, .slice a2 k2 c2] 68 := by rw [← hW]; exact Blk.new w _ _
    have K : Hid (∀ w', Below W.heap.size W w' → w'.cell? ⟨w.heap.size, 0, none⟩ = some (.bool true) ∧ w'.cell? ⟨w.heap.size, 1, none⟩ = some (.slice a1 k1 c1) ∧ w'.cell? ⟨w.heap.size, 2, none⟩ = some (.slice a2 k2 c2)) :=
      fun w' hb => ⟨(Y0.call hb).cell 0, (Y0.call hb).cell 1, (Y0.call hb).cell 2⟩
    have HX0 := hid X0
    obtain ⟨k0, k1', k2'⟩ := K W (Below.refl _ _)
    have XN := hid (HN.out.call HX0.out); have XD := hid (HD.out.call HX0.out)
    clear Y0 X0 hW
    go_region_held3 (fun w' => w'.cell? ⟨w.heap.size, 0, none⟩ = some (.bool true) ∧ w'.cell? ⟨w.heap.size, 1, none⟩ = some (.slice a1 k1 c1) ∧ w'.cell? ⟨w.heap.size, 2, none⟩ = some (.slice a2 k2 c2))
      (first
        | exact K.out _ (Below.refl _ _).drew
        | exact K.out _ bb2.out
        | exact K.out _ bb1.out)
      (first
        | (go_at_call_of 43 (Value.slice a1 k1 c1); refine (r1_Write _ _ n (XN.out.call (by first | exact bb2.out | exact (Below.refl _ _).drew)) LN.out).mono ?_; rintro e w1 ⟨rfl, hb1⟩; rw [numV_eq, E1.out]; have bb1 := hid (bnext (by first | exact bb2.out | exact (Below.refl _ _).drew) hb1))
        | (go_at_call_of 43 (Value.slice a2 k2 c2); refine (r1_Write _ _ d (XD.out.call (by first | exact bb1.out | exact (Below.refl _ _).drew)) LD.out).mono ?_; rintro e w2 ⟨rfl, hb2⟩; rw [numV_eq, E2.out]; have bb2 := hid (bnext (by first | exact bb1.out | exact (Below.refl _ _).drew) hb2)))
    go_wp2_with fail
    go_ret2
    exact ⟨rfl, bnext HX0.out bb2.out⟩
  · have q0 : decide ((4000 : Int) < (B1.size : Int)) = false := by simp; omega
    have q1 : decide ((4000 : Int) < (B2.size : Int)) = false := by simp; omega
    have i3 := ne_lit (l := [49]) h3
    go_enter Tryz.func51, Tryz.ntmps51
    go_wp2_with fail
    obtain ⟨W, hW⟩ : ∃ W, w.alloc (.cells #[.bool false, .slice a1 k1 c1, .slice a2 k2 c2] 68) = W := ⟨_, rfl⟩
    rw [hW]
    have X0 : Below w.heap.size w W := by rw [← hW]; exact (Below.refl _ _).alloc (Nat.le_refl _) _
    have Y0 : Blk W w.heap.size #[.bool false, .slice a1 k1 c1, .slice a2 k2 c2] 68 := by rw [← hW]; exact Blk.new w _ _
    have K : Hid (∀ w', Below W.heap.size W w' → w'.cell? ⟨w.heap.size, 0, none⟩ = some (.bool false) ∧ w'.cell? ⟨w.heap.size, 1, none⟩ = some (.slice a1 k1 c1) ∧ w'.cell? ⟨w.heap.size, 2, none⟩ = some (.slice a2 k2 c2)) :=
      fun w' hb => ⟨(Y0.call hb).cell 0, (Y0.call hb).cell 1, (Y0.call hb).cell 2⟩
    have HX0 := hid X0
    obtain ⟨k0, k1', k2'⟩ := K W (Below.refl _ _)
    have XN := hid (HN.out.call HX0.out); have XD := hid (HD.out.call HX0.out)
    clear Y0 X0 hW
    go_region_held3 (fun w' => w'.cell? ⟨w.heap.size, 0, none⟩ = some (.bool false) ∧ w'.cell? ⟨w.heap.size, 1, none⟩ = some (.slice a1 k1 c1) ∧ w'.cell? ⟨w.heap.size, 2, none⟩ = some (.slice a2 k2 c2))
      (first
        | exact K.out _ (Below.refl _ _).drew
        | exact K.out _ bb2.out
        | exact K.out _ bb1.out)
      (first
        | (go_at_call_of 43 (Value.slice a1 k1 c1); refine (r1_Write _ _ n (XN.out.call (by first | exact bb2.out | exact (Below.refl _ _).drew)) LN.out).mono ?_; rintro e w1 ⟨rfl, hb1⟩; rw [numV_eq, E1.out]; have bb1 := hid (bnext (by first | exact bb2.out | exact (Below.refl _ _).drew) hb1))
        | (go_at_call_of 43 (Value.slice a2 k2 c2); refine (r1_Write _ _ d (XD.out.call (by first | exact bb1.out | exact (Below.refl _ _).drew)) LD.out).mono ?_; rintro e w2 ⟨rfl, hb2⟩; rw [numV_eq, E2.out]; have bb2 := hid (bnext (by first | exact bb1.out | exact (Below.refl _ _).drew) hb2)))
    go_wp2_with fail
    go_ret2
    exact ⟨rfl, bnext HX0.out bb2.out⟩
  · have q0 : decide ((4000 : Int) < (B1.size : Int)) = false := by simp; omega
    have q1 : decide ((4000 : Int) < (B2.size : Int)) = false := by simp; omega
    have i3 := ne_lit (l := [49]) h3
    go_enter Tryz.func51, Tryz.ntmps51
    go_wp2_with fail
    obtain ⟨W, hW⟩ : ∃ W, w.alloc (.cells #[.bool true, .slice a1 k1 c1, .slice a2 k2 c2] 68) = W := ⟨_, rfl⟩
    rw [hW]
    have X0 : Below w.heap.size w W := by rw [← hW]; exact (Below.refl _ _).alloc (Nat.le_refl _) _
    have Y0 : Blk W w.heap.size #[.bool true, .slice a1 k1 c1, .slice a2 k2 c2] 68 := by rw [← hW]; exact Blk.new w _ _
    have K : Hid (∀ w', Below W.heap.size W w' → w'.cell? ⟨w.heap.size, 0, none⟩ = some (.bool true) ∧ w'.cell? ⟨w.heap.size, 1, none⟩ = some (.slice a1 k1 c1) ∧ w'.cell? ⟨w.heap.size, 2, none⟩ = some (.slice a2 k2 c2)) :=
      fun w' hb => ⟨(Y0.call hb).cell 0, (Y0.call hb).cell 1, (Y0.call hb).cell 2⟩
    have HX0 := hid X0
    obtain ⟨k0, k1', k2'⟩ := K W (Below.refl _ _)
    have XN := hid (HN.out.call HX0.out); have XD := hid (HD.out.call HX0.out)
    clear Y0 X0 hW
    go_region_held3 (fun w' => w'.cell? ⟨w.heap.size, 0, none⟩ = some (.bool true) ∧ w'.cell? ⟨w.heap.size, 1, none⟩ = some (.slice a1 k1 c1) ∧ w'.cell? ⟨w.heap.size, 2, none⟩ = some (.slice a2 k2 c2))
      (first
        | exact K.out _ (Below.refl _ _).drew
        | exact K.out _ bb2.out
        | exact K.out _ bb1.out)
      (first
        | (go_at_call_of 43 (Value.slice a1 k1 c1); refine (r1_Write _ _ n (XN.out.call (by first | exact bb2.out | exact (Below.refl _ _).drew)) LN.out).mono ?_; rintro e w1 ⟨rfl, hb1⟩; rw [numV_eq, E1.out]; have bb1 := hid (bnext (by first | exact bb2.out | exact (Below.refl _ _).drew) hb1))
        | (go_at_call_of 43 (Value.slice a2 k2 c2); refine (r1_Write _ _ d (XD.out.call (by first | exact bb1.out | exact (Below.refl _ _).drew)) LD.out).mono ?_; rintro e w2 ⟨rfl, hb2⟩; rw [numV_eq, E2.out]; have bb2 := hid (bnext (by first | exact bb1.out | exact (Below.refl _ _).drew) hb2)))
    go_wp2_with fail
    go_ret2
    exact ⟨rfl, bnext HX0.out bb2.out⟩
theorem numB_is1 {d : Nat} : numB d = ⟨#[49]⟩ ↔ d = 1 := by
  constructor
  · intro h
    rw [← numB_one] at h
    rcases Nat.decEq d 1 with h1 | h1
    · exact absurd h (numB_ne h1)
    · exact h1
  · rintro rfl; exact numB_one
theorem r2_Write (w : World) (v : Value) (q : Rat) (h : IsQ .i64 w v q) (h1 : (limbs q.num.natAbs).length ≤ 1000000) (h2 : (limbs q.den).length ≤ 1000000) :
    Calls Tryz.prog 51 #[v] w fun e w' => e = .returned (.tuple #[.string (outB q), .int .i64 (outE q)]) ∧ Below w.heap.size w w' := by
  obtain ⟨N, D, rfl, hn, hd⟩ := h.ex
  refine r2_Write_walk w _ N D q.num.natAbs q.den (numB q.num.natAbs) (numB q.den) (outB q) (outE q) hn hd h1 h2 rfl rfl ?_
  unfold WrKey outB outE
  rw [numB_size, numB_size]
  by_cases o1 : 4000 < nDigits q.num.natAbs
  · have ho : ovQ q := .inl o1
    rw [if_pos ho, if_pos ho]
    exact .inl ⟨o1, rfl, rfl⟩
  · by_cases o2 : 4000 < nDigits q.den
    · have ho : ovQ q := .inr o2
      rw [if_pos ho, if_pos ho]
      exact .inr (.inl ⟨by omega, o2, rfl, rfl⟩)
    · have ho : ¬ ovQ q := fun h => h.elim o1 o2
      rw [if_neg ho, if_neg ho]
      refine .inr (.inr ⟨by omega, by omega, rfl, ?_⟩)
      unfold txQ
      rw [numB_is1]
      generalize decide (q.num < 0) = m
      by_cases hd1 : q.den = 1
      · rw [hd1]
        cases m
        · exact .inl ⟨rfl, rfl, ba_ext (by simp [txB, numB])⟩
        · exact .inr (.inl ⟨rfl, rfl, ba_ext (by simp [txB, numB])⟩)
      · cases m
        · exact .inr (.inr (.inl ⟨rfl, hd1, ba_ext (by simp [txB, numB, hd1])⟩))
        · exact .inr (.inr (.inr ⟨rfl, hd1, ba_ext (by simp [txB, numB, hd1])⟩))
end Go.Proofs.YtccalhlhdiapiaaGreatDoor
namespace Go.Proofs.YtccalhlhdiapiaaGreatDoor
open Go.RowKit
open Go.Lib (decDigits nDigits)
set_option linter.unusedVariables false
theorem isN_one (w : World) : IsN .i64 (w.alloc (.cells #[.int .i64 1] 3)) (.slice (some ⟨w.heap.size, 0, none⟩) 1 1) 1 := by
  unfold IsN
  rw [limbs_one]
  exact Row.of_blk (b := w.heap.size) (n := 1) (c := 1) (cs := #[.int .i64 1]) (Blk.new w _ _) rfl (by unfold maxLen; omega) (fun i x hx => by simpa [ints] using hx) (Nat.le_refl _) (by unfold maxLen; omega)
end Go.Proofs.YtccalhlhdiapiaaGreatDoor
namespace Go.Proofs.YtccalhlhdiapiaaGreatDoor
open Go.RowKit
set_option linter.unusedVariables false
def Ret2N (k : IntKind) (n m : Nat) (e : Ending) (w' : World) : Prop := ∃ v, e = .returned (.tuple #[v, .int k (m : Int)]) ∧ IsN k w' v n
set_option maxRecDepth 100000 in
set_option maxHeartbeats 4000000 in
theorem r1_short (w : World) (v : Value) (a d : Nat) (ha : IsN .i64 w v a) (hd0 : 0 < d) (hd1 : d < 1000000000) (hla : (limbs a).length ≤ 1000000) :
    Calls Tryz.prog 179 #[v, .int .i64 d] w fun e w' => Ret2N .i64 (a / d) (a % d) e w' ∧ Below w.heap.size w w' := by
  obtain ⟨a1, c1, rfl, h1, h2, h3⟩ := ha.openI
  have H3 := hid h3; clear h3 ha
  obtain ⟨n, ea⟩ : ∃ n, (limbs a).length = n := ⟨_, rfl⟩
  rw [ea] at h1 hla ⊢
  have HA := hid ea
  clear ea
  have hmk := fun W => make_limbs n (by omega) W
  have hdz : ((d : Int) == 0) = false := by simp; omega
  go_enter Tryz.func179, Tryz.ntmps179
  go_wp2_with fail
  clear hmk
  go_loopw [7, 8, 9] (fun rr ii nn wr => ∃ (j r : Nat) (t : Int) (o : List Nat), rr = .int .i64 r ∧ ii = .int .i64 t ∧ t = (j : Int) - 1 ∧ j ≤ n ∧ Hid (SmallI a d j r o) ∧ Hid (Arr .i64 3 wr w.heap.size o) ∧ Hid (Below w.heap.size w wr)) (fun _ ii _ _ => (intOf ii + 1).toNat)
  case atStart => exact ⟨n, 0, _, _, rfl, rfl, rfl, Nat.le_refl _, by have := SmallI.start (a := a) hd0; rw [HA.out] at this; exact this, Arr.made w .i64 3 n, (Below.refl _ _).alloc (Nat.le_refl _) _⟩
  case round =>
    obtain ⟨j, r, t, o, rfl, rfl, ht, hj, hS, hO, hB⟩ := hrel
    have hsz : Hid (o.length = n) := by rw [Hid, hS.out.len, HA.out]
    cases j with
    | zero =>
      obtain rfl : t = -1 := by omega
      clear ht
      have hv := hid hS.out.done
      have hr := hid (show Row wr (.slice (some ⟨w.heap.size, 0, none⟩) n n) (ints .i64 o) from by
        have := hO.out.row (n := n) (c := n) (by rw [hsz.out]; exact Nat.le_refl _) (Nat.le_refl _) (by unfold maxLen; omega)
        rwa [List.take_of_length_le (by rw [hsz.out]; exact Nat.le_refl _)] at this)
      go_wp2_with (go_at_call 85; refine (r1_trim _ _ o hS.out.sm hr.out).mono ?_; rintro e w1 ⟨⟨v1, rfl, hv1⟩, rfl⟩)
      go_ret2
      exact ⟨⟨v1, ret_tup (by rw [hv.out.2]), by rw [← hv.out.1]; exact hv1⟩, hB.out⟩
    | succ j =>
      obtain rfl : t = (j : Int) := by omega
      clear ht
      obtain ⟨x, hx⟩ : ∃ x, (limbs a)[j]? = some x := ⟨_, List.getElem?_eq_getElem (by rw [HA.out]; omega)⟩
      obtain ⟨g, og, rfl, hg, hc⟩ := H3.out _ x hx
      have d1 := (hB.out.cell (p := ⟨g, og + j, none⟩) hg).trans hc
      obtain ⟨z, hz⟩ : ∃ z, o[j]? = some z := ⟨_, List.getElem?_eq_getElem (by rw [hsz.out]; omega)⟩
      have d3 := hO.out.cell hz
      have d4 := hO.out.free j
      have HN := hid (hS.out.next hx)
      have hxl := (sm_limbs a).get hx
      have hrl := hS.out.rd
      clear hx hc hz
      go_wp2_with fail
      go_roundw
      case rel =>
        have e1 : (((r : Int) * 1000000000 + x) / d) = (((r * 1000000000 + x) / d : Nat) : Int) := by rw [Int.natCast_ediv]; rfl
        have e2 : (((r : Int) * 1000000000 + x) % d) = (((r * 1000000000 + x) % d : Nat) : Int) := by rw [Int.natCast_emod]; rfl
        rw [e1]
        exact ⟨j, _, _, _, by rw [e2], rfl, by omega, by omega, HN, hO.out.set j _, below_set hB.out (Nat.le_refl _) _⟩
      case measure => simp [intOf] <;> omega
end Go.Proofs.YtccalhlhdiapiaaGreatDoor
namespace Go.Proofs.YtccalhlhdiapiaaGreatDoor
open Go.RowKit
set_option linter.unusedVariables false
def RetArr (k : IntKind) (t : TypeId) (B n len : Nat) (e : Ending) (w' : World) : Prop := ∃ g o, e = .returned (.slice (some ⟨g, 0, none⟩) len len) ∧ B ≤ g ∧ Arr k t w' g o ∧ o.length = len ∧ Sm o ∧ val o = n
set_option maxRecDepth 100000 in
set_option maxHeartbeats 4000000 in
theorem r1_scaled (w : World) (v : Value) (a d : Nat) (ha : IsN .i64 w v a) (hd1 : d < 1000000000) (hla : (limbs a).length ≤ 1000000) :
    Calls Tryz.prog 180 #[v, .int .i64 d] w fun e w' => RetArr .i64 3 w.heap.size (a * d) ((limbs a).length + 1) e w' ∧ Below w.heap.size w w' := by
  obtain ⟨a1, c1, rfl, h1, h2, h3⟩ := ha.openI
  have H3 := hid h3; clear h3 ha
  obtain ⟨n, ea⟩ : ∃ n, (limbs a).length = n := ⟨_, rfl⟩
  rw [ea] at h1 hla ⊢
  have HA := hid ea
  clear ea
  have hmk : ∀ W : World, (Instr.makeSlice 59 (.int .i64 ((n : Int) + 1)) (.int .i64 ((n : Int) + 1))).run Tryz.prog W = .ok (.slice (some ⟨W.heap.size, 0, none⟩) (n + 1) (n + 1)) (W.alloc (.cells (madeCells #[.int .i64 0] (n + 1)) 3)) := fun W => by
    have := make_limbs (n + 1) (by omega) W
    rwa [Int.natCast_add] at this
  go_enter Tryz.func180, Tryz.ntmps180
  go_wp2_with fail
  clear hmk
  go_loopw [6, 7, 8] (fun cc ii nn wr => ∃ (i c : Nat) (o : List Nat), cc = .int .i64 c ∧ ii = .int .i64 i ∧ i ≤ n ∧ Hid (ScaleI a d i c o) ∧ Hid (Arr .i64 3 wr w.heap.size o) ∧ Hid (Below w.heap.size w wr)) (fun _ ii _ _ => n - (intOf ii).toNat)
  case atStart => exact ⟨0, 0, _, rfl, rfl, Nat.zero_le _, ScaleI.start a d, by rw [HA.out]; exact Arr.made w .i64 3 (n + 1), (Below.refl _ _).alloc (Nat.le_refl _) _⟩
  case round =>
    obtain ⟨i, c, o, rfl, rfl, hin, hS, hO, hB⟩ := hrel
    have hsz : Hid (o.length = n + 1) := by rw [Hid, hS.out.len, HA.out]
    by_cases hlt : i < n
    · obtain ⟨x, hx⟩ : ∃ x, (limbs a)[i]? = some x := ⟨_, List.getElem?_eq_getElem (by rw [HA.out]; exact hlt)⟩
      obtain ⟨g, og, rfl, hg, hc⟩ := H3.out _ x hx
      have d1 := (hB.out.cell (p := ⟨g, og + i, none⟩) hg).trans hc
      obtain ⟨z, hz⟩ : ∃ z, o[i]? = some z := ⟨_, List.getElem?_eq_getElem (by rw [hsz.out]; omega)⟩
      have d3 := hO.out.cell hz
      have d4 := hO.out.free i
      have HN := hid (hS.out.next hd1 hx)
      have hb1 := mul_bound (old := 0) (by omega) ((sm_limbs a).get hx) hd1 hS.out.c1
      have hcl := hS.out.c1
      clear hx hc hz
      have HP := hid (show ((x : Int) * (d : Int)) = ((x * d : Nat) : Int) from (Int.natCast_mul x d).symm)
      obtain ⟨p, hp⟩ : ∃ p, x * d = p := ⟨_, rfl⟩
      rw [hp] at hb1 HN HP
      have hp2 := hb1.2; clear hb1 hp
      have e5 : IntKind.i64.wrap ((x : Int) * (d : Int)) = (p : Int) := by rw [HP.out]; exact IntWalk.i64_in _ (by omega)
      have e5' : wrap64 ((x : Int) * (d : Int)) = (p : Int) := by rw [HP.out]; exact IntWalk.wrap64_in _ (by omega)
      go_wp2_with fail
      clear e5 e5'
      go_roundw
      case rel =>
        have hz : (((p : Int) + c) % 1000000000) = (((p + c) % 1000000000 : Nat) : Int) := by omega
        rw [hz]
        exact ⟨i + 1, (p + c) / 1000000000, _, by go_num, by go_num, by omega, HN, hO.out.set i _, below_set hB.out (Nat.le_refl _) _⟩
      case measure => simp [intOf] <;> omega
    · obtain rfl : i = n := by omega
      obtain ⟨z, hz⟩ : ∃ z, o[i]? = some z := ⟨_, List.getElem?_eq_getElem (by rw [hsz.out]; omega)⟩
      have d3 := hO.out.cell hz
      have d4 := hO.out.free i
      clear hz
      have hD := hid (show val (o.set i c) = a * d ∧ Sm (o.set i c) ∧ (o.set i c).length = i + 1 from by have := hS.out; rw [← HA.out] at this ⊢; exact this.done)
      go_wp2_with fail
      go_ret
      exact ⟨⟨w.heap.size, _, rfl, Nat.le_refl _, hO.out.set i c, hD.out.2.2, hD.out.2.1, hD.out.1⟩, below_set hB.out (Nat.le_refl _) _⟩
end Go.Proofs.YtccalhlhdiapiaaGreatDoor
namespace Go.Proofs.YtccalhlhdiapiaaGreatDoor
open Go.RowKit
set_option linter.unusedVariables false
def StepOut (us vs : List Nat) (gu j n : Nat) (w : World) (e : Ending) (w' : World) : Prop :=
  e = .returned (.int .i64 ((val ((us.drop j).take (n + 1)) / val vs : Nat) : Int)) ∧ ∃ o, WinOut us j n (val ((us.drop j).take (n + 1)) % val vs) o ∧ Arr .i64 3 w' gu o ∧ w.grownBy w' (some gu)
set_option maxRecDepth 100000 in
set_option maxHeartbeats 8000000 in
theorem r1_step (w : World) (gu j cu : Nat) (us : List Nat) (gv ov cv : Nat) (vs : List Nat) (n : Nat) (hS : StepIn us vs j n) (hU : Arr .i64 3 w gu us) (hV : Row w (.slice (some ⟨gv, ov, none⟩) n cv) (ints .i64 vs)) (hne : gv ≠ gu) :
    Calls Tryz.prog 181 #[.slice (some ⟨gu, j, none⟩) (n + 1) cu, .slice (some ⟨gv, ov, none⟩) n cv] w fun e w' => StepOut us vs gu j n w e w' := by
  have n2 := hS.n2; have nm := hS.nm; have lu := hS.lu; have um := hS.um
  have cv' : ∀ i, i < n → w.cell? ⟨gv, ov + i, none⟩ = some (.int .i64 (vs.getD i 0 : Nat)) := fun i hi => by
    obtain ⟨g, o, e, hg, hc⟩ := hV.at (ints_get (getD_some (l := vs) (i := i) (by rw [hS.lv]; exact hi)))
    simp at e
    obtain ⟨rfl, rfl⟩ := e
    exact hc
  have cu' : ∀ i, i ≤ n → w.cell? ⟨gu, j + i, none⟩ = some (.int .i64 (us.getD (j + i) 0 : Nat)) := fun i hi => hU.cell (getD_some (by omega))
  have hE := hid hS.est
  have a0 := cu' n (Nat.le_refl _)
  have a1 := cu' (n - 1) (by omega)
  have a2 := cu' (n - 2) (by omega)
  have b1 := cv' (n - 1) (by omega)
  have b2 := cv' (n - 2) (by omega)
  have CV := hid cv'; have CU := hid cu'; have HS := hid hS; have HU := hid hU
  clear cv' cu' hS hU hV
  obtain ⟨u0, hu0⟩ : ∃ x, us.getD (j + n) 0 = x := ⟨_, rfl⟩
  obtain ⟨u1, hu1⟩ : ∃ x, us.getD (j + (n - 1)) 0 = x := ⟨_, rfl⟩
  obtain ⟨u2, hu2⟩ : ∃ x, us.getD (j + (n - 2)) 0 = x := ⟨_, rfl⟩
  obtain ⟨v1, hv1⟩ : ∃ x, vs.getD (n - 1) 0 = x := ⟨_, rfl⟩
  obtain ⟨v2, hv2⟩ : ∃ x, vs.getD (n - 2) 0 = x := ⟨_, rfl⟩
  rw [hu0, hu1, hu2, hv1, hv2] at hE
  rw [hu0] at a0; rw [hu1] at a1; rw [hu2] at a2; rw [hv1] at b1; rw [hv2] at b2
  have HU0 := hid hu0; clear hu0 hu1 hu2 hv1 hv2
  have l0 := hE.out.b0; have l1 := hE.out.b1; have l2 := hE.out.b2; have l3 := hE.out.c1; have l4 := hE.out.c2; have l5 := hE.out.v0
  have dz : ((v1 : Int) == 0) = false := by simp; omega
  have f1 : (0 : Int) ≤ (n : Int) - 1 := by omega
  have f2 : (n : Int) - 1 < (n : Int) + 1 := by omega
  have f3 : (n : Int) - 1 < (n : Int) := by omega
  have f4 : (0 : Int) ≤ (n : Int) - 2 := by omega
  have f5 : (n : Int) - 2 < (n : Int) + 1 := by omega
  have f6 : (n : Int) - 2 < (n : Int) := by omega
  have f7 : (0 : Int) ≤ (n : Int) := by omega
  have f8 : (n : Int) < (n : Int) + 1 := by omega
  have e1 : IntKind.i64.wrap ((n : Int) - 1) = (n : Int) - 1 := IntWalk.i64_in _ (by omega)
  have e2 : IntKind.i64.wrap ((n : Int) - 2) = (n : Int) - 2 := IntWalk.i64_in _ (by omega)
  have e3 : ((n : Int) - 1).toNat = n - 1 := by omega
  have e4 : ((n : Int) - 2).toNat = n - 2 := by omega
  have e5 : IntKind.i64.wrap ((u0 : Int) * 1000000000) = (u0 : Int) * 1000000000 := IntWalk.i64_in _ (by omega)
  have e6 : IntKind.i64.wrap ((u0 : Int) * 1000000000 + u1) = (u0 : Int) * 1000000000 + u1 := IntWalk.i64_in _ (by omega)
  go_enter Tryz.func181, Tryz.ntmps181
  go_wp2_with fail
  go_quiet (fail)
  clear e5 e6
  go_wp2_with fail
  go_quiet (fail)
  go_upto_block 0 with (fail)
  rename_i nq1 nq2
  obtain ⟨V, hV⟩ : ∃ V, val vs = V := ⟨_, rfl⟩
  obtain ⟨U, hU⟩ : ∃ U, val ((us.drop j).take (n + 1)) = U := ⟨_, rfl⟩
  rw [hU, hV] at hE
  have HVU := hid (And.intro hU hV); clear hU hV
  go_cut [7] (fun gg wx => ∃ (G q : Nat), gg = .int .i64 G ∧ wx = w.drewN q ∧ G < 1000000000 ∧ Hid (U / V ≤ G ∧ G * V < U + V))
  case first =>
    go_wp2_with fail
    go_loopw [7, 8] (fun gg rr wr => ∃ G R q : Nat, gg = .int .i64 G ∧ rr = .int .i64 R ∧ wr = w.drewN q ∧ Hid (EstI U V u0 u1 v1 G R)) (fun gg _ _ => (intOf gg).toNat)
    case atStart =>
      exact ⟨_, _, _, by rw [Int.natCast_ediv]; rfl, by rw [Int.natCast_emod]; rfl, by rw [World.drewN_drewN], EstI.start hE.out⟩
    case round =>
      obtain ⟨G, R, q, rfl, rfl, rfl, hI⟩ := hrel
      have g2 := hI.out.g2; have r2 := hI.out.r2
      by_cases hR : R < 1000000000
      · have q1 : decide ((R : Int) < 1000000000) = true := by simp; omega
        by_cases hG : 1000000000 ≤ G
        · have q2 : decide ((1000000000 : Int) ≤ (G : Int)) = true := by simp; omega
          have HN := hid (hI.out.big hE.out hR hG)
          go_wp2_with fail
          go_big_quiet (fail)
          clear q1 q2
          go_wp2_with fail
          go_quiet (fail)
          go_wp2_with fail
          go_roundw
          case rel => exact ⟨G - 1, R + v1, _, by go_num, by go_num, by rw [World.drewN_drewN, World.drewN_drewN], HN⟩
          case measure => simp [intOf] <;> omega
        · have q2 : decide ((1000000000 : Int) ≤ (G : Int)) = false := by simp; omega
          obtain ⟨p, hp⟩ : ∃ p, G * v2 = p := ⟨_, rfl⟩
          have hpb : p ≤ 999999999 * 999999999 := by rw [← hp]; exact Nat.mul_le_mul (by omega) (by omega)
          have HPI := hid (show ((G : Int) * (v2 : Int)) = (p : Int) from by rw [← Int.natCast_mul, hp])
          by_cases hT : R * 1000000000 + u2 < p
          · have q3 : decide ((R : Int) * 1000000000 + u2 < (p : Int)) = true := by simp; omega
            have HN := hid (hI.out.less hE.out hR (by rw [hp]; exact hT))
            have hg0 := HN.out.2
            clear hp hT
            obtain ⟨x5, x6, x7⟩ : IntKind.i64.wrap ((G : Int) * (v2 : Int)) = (p : Int) ∧ IntKind.i64.wrap ((R : Int) * 1000000000) = (R : Int) * 1000000000 ∧ IntKind.i64.wrap ((R : Int) * 1000000000 + u2) = (R : Int) * 1000000000 + u2 := by
              refine ⟨by rw [HPI.out]; exact IntWalk.i64_in _ (by omega), IntWalk.i64_in _ (by omega), IntWalk.i64_in _ (by omega)⟩
            go_wp2_with fail
            go_big_quiet (fail)
            clear q1 q2 q3 x5 x6 x7
            go_wp2_with fail
            go_quiet (fail)
            go_wp2_with fail
            go_roundw
            case rel => exact ⟨G - 1, R + v1, _, by go_num, by go_num, by rw [World.drewN_drewN, World.drewN_drewN], HN.out.1⟩
            case measure => simp [intOf] <;> omega
          · have q3 : decide ((R : Int) * 1000000000 + u2 < (p : Int)) = false := by simp; omega
            have HD := hid (hI.out.done hE.out (.inr ⟨by omega, by rw [hp]; omega⟩))
            have HQ := hid hI.out.q
            clear hp hT
            obtain ⟨x5, x6, x7⟩ : IntKind.i64.wrap ((G : Int) * (v2 : Int)) = (p : Int) ∧ IntKind.i64.wrap ((R : Int) * 1000000000) = (R : Int) * 1000000000 ∧ IntKind.i64.wrap ((R : Int) * 1000000000 + u2) = (R : Int) * 1000000000 + u2 := by
              refine ⟨by rw [HPI.out]; exact IntWalk.i64_in _ (by omega), IntWalk.i64_in _ (by omega), IntWalk.i64_in _ (by omega)⟩
            go_wp2_with fail
            go_big_quiet (fail)
            clear q1 q2 q3 x5 x6 x7
            go_wp2_with fail
            go_meet
            exact ⟨G, _, rfl, by rw [World.drewN_drewN], HD.out.1, HQ.out, HD.out.2⟩
      · have q1 : decide ((R : Int) < 1000000000) = false := by simp; omega
        have HD := hid (hI.out.done hE.out (.inl (by omega)))
        have HQ := hid hI.out.q
        go_wp2_with fail
        go_big_quiet (fail)
        clear q1
        go_wp2_with fail
        go_meet
        exact ⟨G, _, rfl, by rw [World.drewN_drewN], HD.out.1, HQ.out, HD.out.2⟩
  case rest =>
    obtain ⟨G, q, rfl, rfl, hG, hQ⟩ := hcut
    have hE1 := hE
    clear a0 a1 a2 b1 b2 dz f1 f2 f3 f4 f5 f6 f7 f8 e1 e2 e3 e4 hE l0 l1 l2 l3 l4 l5
    go_wp2_with fail
    go_loopw [9, 10, 11, 12] (fun bb ii tt xx wr => ∃ (i c : Nat) (o : List Nat), bb = .int .i64 c ∧ ii = .int .i64 i ∧ i ≤ n ∧ Hid (MsubI us vs j n G i c o) ∧ Hid (Arr .i64 3 wr gu o) ∧ Hid (w.grownBy wr (some gu))) (fun _ ii _ _ _ => n - (intOf ii).toNat)
    case atStart => exact ⟨0, 0, us, rfl, rfl, Nat.zero_le _, MsubI.start HS.out.su, HU.out.drewN q, gb_drewN (World.grownBy.refl w _) q⟩
    case round =>
      obtain ⟨i, c, o, rfl, rfl, hin, hM, hO, hB⟩ := hrel
      have hol := hid hM.out.len
      have hcG := hM.out.c1
      by_cases hlt : i < n
      · have d1 := hO.out.cell (getD_some (l := o) (i := j + i) (by rw [hol.out]; omega))
        have d4 := hO.out.free (j + i)
        have d2 := gb_cell hB.out (CV.out i hlt) hne
        have hvl := HS.out.sv.getD i
        have hul := HS.out.su.getD (j + i)
        rw [getD_drop_eq hM.out.hi] at d1
        obtain ⟨T, M, z, c', hT, hM1, hz, hc', z1, z2, z3, z4, z5, z6, z7, z8⟩ := ref_msub hul hcG hG hvl
        have HN := hid (hM.out.next (by omega) lu z1 z2 z3)
        obtain ⟨ui, hui⟩ : ∃ x, us.getD (j + i) 0 = x := ⟨_, rfl⟩
        obtain ⟨vi, hvi⟩ : ∃ x, vs.getD i 0 = x := ⟨_, rfl⟩
        rw [hui] at d1 hul hT; rw [hvi] at d2 hvl hT
        clear hui hvi z3
        obtain ⟨p, hp⟩ : ∃ p, G * vi = p := ⟨_, rfl⟩
        have hpb : p ≤ 999999999 * 999999999 := by rw [← hp]; exact Nat.mul_le_mul (by omega) (by omega)
        have HPI := hid (show ((G : Int) * (vi : Int)) = (p : Int) from by rw [← Int.natCast_mul, hp])
        rw [hp] at hT
        have HT := hid hT; have HM1 := hid hM1; have HZ := hid hz; have HC := hid hc'
        clear hp hT hM1 hz hc'
        have f1 : (0 : Int) ≤ (i : Int) := by omega
        have f2 : (i : Int) < (n : Int) := by omega
        have f3 : (i : Int) < (n : Int) + 1 := by omega
        obtain ⟨x5, x6, x7⟩ : IntKind.i64.wrap ((G : Int) * (vi : Int)) = (p : Int) ∧ IntKind.i64.wrap ((ui : Int) - c) = (ui : Int) - c ∧ IntKind.i64.wrap ((ui : Int) - c - p) = T := by
          refine ⟨by rw [HPI.out]; exact IntWalk.i64_in _ (by omega), IntWalk.i64_in _ (by omega), by rw [HT.out]; exact IntWalk.i64_in _ (by omega)⟩
        go_wp2_with fail
        go_quiet (fail)
        clear x5 x6 x7
        have y1 := HM1.out; have y2 := HZ.out; have y3 := HC.out
        go_wp2_with fail
        clear y1 y2 y3
        go_roundw
        case rel => exact ⟨i + 1, c', _, by rw [HC.out], by go_num, by omega, HN, (hO.out.drewN _).set (j + i) z, gb_set (gb_drewN hB.out _) _ _⟩
        case measure => simp [intOf] <;> omega
      · obtain rfl : i = n := by omega
        have hg0 := getD_drop_eq hM.out.hi
        have d1 := hO.out.cell (getD_some (l := o) (i := j + i) (by rw [hol.out]; omega))
        have d4 := hO.out.free (j + i)
        rw [hg0, HU0.out] at d1
        have hV0 := hE1.out.pos
        have l0 := hE1.out.b0
        clear hg0
        by_cases hc : c ≤ u0
        · obtain ⟨r1, r2, r3⟩ := hM.out.fits lu HS.out.lv HS.out.sv HVU.out.1 HVU.out.2 HU0.out hQ.out.1 hV0 hc
          have R1 := hid r1; have R3 := hid r3
          subst r2
          clear r1 r3 hc
          go_wp2_with fail
          refine wp_loop_rounds 1 ?_
          rw [rounds_succ]
          go_wp2_with fail
          go_ret
          refine ⟨ret_int (by rw [HVU.out.1, HVU.out.2, ← R1.out]), _, by rw [HVU.out.1, HVU.out.2]; exact R3.out, hO.out.set (j + i) 0, gb_set hB.out _ _⟩
        · obtain ⟨hc1, hadd⟩ := hM.out.lacks lu HS.out.lv HS.out.sv HVU.out.1 HVU.out.2 HU0.out hQ.out.1 hQ.out.2 hV0 (by omega)
          have HADD := hid hadd
          have hsub : ((u0 : Int) - (c : Int)) = -1 := by omega
          have hcb : (c : Int) ≤ 1000000000 := by omega
          have HN := hid (hO.out.setN (j + i) (-1))
          have HG := hid (gb_set hB.out (j + i) (.int .i64 (-1)))
          clear hadd hc hc1
          go_wp2_with fail
          refine wp_loop_rounds 2 ?_
          rw [rounds_succ]
          clear hsub
          obtain ⟨wx, hwx⟩ : ∃ wx, wr.setCell ⟨gu, j + i, none⟩ (.int .i64 (-1)) = wx := ⟨_, rfl⟩
          rw [hwx] at HN HG ⊢
          clear hwx d1 d4
          have k1 := HN.out.self (m := j + i) (by rw [hol.out]; omega)
          go_wp2_with fail
          go_loopw [13, 14, 15] (fun cc ii tt wq => ∃ (y k : Nat) (p : List Nat), cc = .int .i64 k ∧ ii = .int .i64 y ∧ y ≤ i ∧ Hid (AddI o vs j y k p) ∧ Hid (ArrN .i64 3 wq gu p (j + i) (-1)) ∧ Hid (w.grownBy wq (some gu))) (fun _ ii _ _ => i - (intOf ii).toNat)
          case atStart => exact ⟨0, 0, o, rfl, rfl, Nat.zero_le _, AddI.start hM.out.sm, HN, HG⟩
          case round =>
            obtain ⟨y, k, p, rfl, rfl, hyi, hA, hP, hB2⟩ := hrel
            have hpl := hid (show p.length = us.length from by rw [hA.out.len, hol.out])
            by_cases hlt2 : y < i
            · have d1 := hP.out.cell (i := j + y) (by omega) (getD_some (l := p) (i := j + y) (by rw [hpl.out]; omega))
              have d4 := hP.out.free (j + y)
              have d2 := gb_cell hB2.out (CV.out y hlt2) hne
              rw [getD_drop_eq hA.out.hi] at d1
              have HN2 := hid (hA.out.next hM.out.sm HS.out.sv (by rw [hol.out]; omega))
              have hvl := HS.out.sv.getD y
              have hul := hM.out.sm.getD (j + y)
              have hk1 := hA.out.k1
              obtain ⟨ui, hui⟩ : ∃ x, o.getD (j + y) 0 = x := ⟨_, rfl⟩
              obtain ⟨vi, hvi⟩ : ∃ x, vs.getD y 0 = x := ⟨_, rfl⟩
              rw [hui] at d1 hul; rw [hvi] at d2 hvl; rw [hui, hvi] at HN2
              clear hui hvi
              have f1 : (0 : Int) ≤ (y : Int) := by omega
              have f2 : (y : Int) < (i : Int) := by omega
              have f3 : (y : Int) < (i : Int) + 1 := by omega
              have hkI : (k : Int) ≤ 1 := by omega
              obtain ⟨x5, x6⟩ : IntKind.i64.wrap ((ui : Int) + vi) = (ui : Int) + vi ∧ IntKind.i64.wrap ((ui : Int) + vi + k) = (ui : Int) + vi + k := by
                refine ⟨IntWalk.i64_in _ (by omega), IntWalk.i64_in _ (by omega)⟩
              go_wp2_with fail
              go_quiet (fail)
              clear x5 x6
              go_wp2_with fail
              go_roundw
              case rel =>
                have hz : (((ui : Int) + vi + k) % 1000000000) = (((ui + vi + k) % 1000000000 : Nat) : Int) := by omega
                rw [hz]
                exact ⟨y + 1, _, _, by go_num, by go_num, by omega, HN2, (hP.out.drewN _).set (by omega) _, gb_set (gb_drewN hB2.out _) _ _⟩
              case measure => simp [intOf] <;> omega
            · obtain rfl : y = i := by omega
              obtain ⟨r0, r1, r2, r3⟩ := HADD.out k p hA.out
              subst r0
              have R1 := hid r1; have R3 := hid r3
              have k1 := hP.out.self (m := j + y) (by rw [hpl.out]; omega)
              have k2 := hP.out.free (j + y)
              clear r1 r3
              go_wp2_with fail
              rw [rounds_succ]
              go_wp2_with fail
              go_ret
              refine ⟨ret_int (by rw [HVU.out.1, HVU.out.2, R1.out]; omega), _, by rw [HVU.out.1, HVU.out.2]; exact R3.out, hP.out.back 0, gb_set hB2.out _ _⟩
end Go.Proofs.YtccalhlhdiapiaaGreatDoor
