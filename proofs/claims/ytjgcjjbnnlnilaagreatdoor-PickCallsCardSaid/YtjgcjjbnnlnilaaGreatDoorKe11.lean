/- Walks: the reference's Plus. -/
import Derived.Test.YtjgcjjbnnlnilaaGreatDoorKe10
import Derived.Deep.RegionHeld3
import Derived.Deep.DeepCutAuto
namespace Go.Proofs.YtjgcjjbnnlnilaaGreatDoor
open Go.RowKit
set_option linter.unusedVariables false
set_option linter.unusedSimpArgs false

/-- The ways of Plus: the sign and the numerator of the sum. -/
def PlKey (m1 m2 : Bool) (x y : Nat) (m : Bool) (s : Nat) : Prop :=
  (m1 = m2 ∧ m = m1 ∧ s = x + y) ∨ ((m1 == m2) = false ∧ x < y ∧ m = m2 ∧ s = y - x) ∨ ((m1 == m2) = false ∧ y ≤ x ∧ m = m1 ∧ s = x - y)

theorem limbs_add {a b p : Nat} (ha : (limbs a).length ≤ p) (hb : (limbs b).length ≤ p) : (limbs (a + b)).length ≤ p + 1 := by
  refine limbs_length_le.2 ?_
  have h1 := limbs_length_le.1 ha
  have h2 := limbs_length_le.1 hb
  rw [Nat.pow_succ]
  omega

theorem ord_ge {x y : Nat} (h : y ≤ x) : decide (ordN x y < 0) = false := by
  unfold ordN
  split
  · omega
  · split <;> simp

set_option maxRecDepth 100000 in
set_option maxHeartbeats 4000000 in
theorem r2_Plus_walk (w : World) (m1 m2 m : Bool) (N1 D1 N2 D2 : Value) (n1 d1 n2 d2 s : Nat) (hn1 : IsN .i64 w N1 n1) (hd1 : IsN .i64 w D1 d1) (hn2 : IsN .i64 w N2 n2) (hd2 : IsN .i64 w D2 d2)
    (l1 : (limbs n1).length ≤ 100000) (l2 : (limbs d1).length ≤ 100000) (l3 : (limbs n2).length ≤ 100000) (l4 : (limbs d2).length ≤ 100000) (p1 : 0 < d1) (p2 : 0 < d2) (key : PlKey m1 m2 (n1 * d2) (n2 * d1) m s) :
    Calls Tryz.prog 72 #[.agg #[.bool m1, N1, D1], .agg #[.bool m2, N2, D2]] w fun e w' => RetQ .i64 (qmk m s (d1 * d2)) e w' ∧ Below w.heap.size w w' := by
  have HN1 := hid hn1; have HD1 := hid hd1; have HN2 := hid hn2; have HD2 := hid hd2
  have L1 := hid (Nat.le_trans (limbs_mul l1 l4) (show 100000 + 100000 ≤ 1000000 by omega))
  have L2 := hid (Nat.le_trans (limbs_mul l3 l2) (show 100000 + 100000 ≤ 1000000 by omega))
  have L3 := hid (Nat.le_trans (limbs_mul l2 l4) (show 100000 + 100000 ≤ 1000000 by omega))
  have H1 := hid (Nat.le_trans l1 (show 100000 ≤ 1000000 by omega))
  have H2 := hid (Nat.le_trans l2 (show 100000 ≤ 1000000 by omega))
  have H3 := hid (Nat.le_trans l3 (show 100000 ≤ 1000000 by omega))
  have H4 := hid (Nat.le_trans l4 (show 100000 ≤ 1000000 by omega))
  have hD := hid (Nat.mul_pos p1 p2)
  have LS : Hid ((limbs s).length ≤ 1000000) := by
    have q1 := limbs_mul l1 l4
    have q2 := limbs_mul l3 l2
    have q3 := limbs_add q1 q2
    have q4 : (limbs s).length ≤ (limbs (n1 * d2 + n2 * d1)).length := limbs_length_mono (by rcases key with ⟨-, -, rfl⟩ | ⟨-, -, -, rfl⟩ | ⟨-, -, -, rfl⟩ <;> omega)
    show _ ≤ _
    omega
  clear l1 l2 l3 l4 p1 p2
  obtain ⟨a1, c1, rfl, _⟩ := hn1.openI
  obtain ⟨a2, c2, rfl, _⟩ := hd1.openI
  obtain ⟨a3, c3, rfl, _⟩ := hn2.openI
  obtain ⟨a4, c4, rfl, _⟩ := hd2.openI
  obtain ⟨k1, hk1⟩ : ∃ k, (limbs n1).length = k := ⟨_, rfl⟩
  obtain ⟨k2, hk2⟩ : ∃ k, (limbs d1).length = k := ⟨_, rfl⟩
  obtain ⟨k3, hk3⟩ : ∃ k, (limbs n2).length = k := ⟨_, rfl⟩
  obtain ⟨k4, hk4⟩ : ∃ k, (limbs d2).length = k := ⟨_, rfl⟩
  rw [hk1] at HN1 ⊢
  rw [hk2] at HD1 ⊢
  rw [hk3] at HN2 ⊢
  rw [hk4] at HD2 ⊢
  clear hn1 hd1 hn2 hd2 hk1 hk2 hk3 hk4
  obtain ⟨x, hx⟩ : ∃ x, n1 * d2 = x := ⟨_, rfl⟩
  obtain ⟨y, hy⟩ : ∃ y, n2 * d1 = y := ⟨_, rfl⟩
  obtain ⟨z, hz⟩ : ∃ z, d1 * d2 = z := ⟨_, rfl⟩
  rw [hx, hy] at key
  rw [hx] at L1
  rw [hy] at L2
  rw [hz] at hD L3 ⊢
  have HX := hid hx; have HY := hid hy; have HZ := hid hz
  clear hx hy hz
  unfold PlKey at key
  rcases key with ⟨rfl, rfl, rfl⟩ | ⟨hne, hlt, rfl, rfl⟩ | ⟨hne, hle, rfl, rfl⟩
  · go_enter Tryz.func72, Tryz.ntmps72
    go_wp2_with fail
    obtain ⟨W, hW⟩ : ∃ W, ((w.alloc (.cells #[.bool m, .slice a1 k1 c1, .slice a2 k2 c2] 89)).alloc (.cells #[.bool m, .slice a3 k3 c3, .slice a4 k4 c4] 89)).alloc (.cells #[.bool false, .slice none 0 0, .slice none 0 0] 89) = W := ⟨_, rfl⟩
    rw [hW]
    have X0 : Below w.heap.size w W := by rw [← hW]; exact (((Below.refl _ _).alloc (Nat.le_refl _) _).alloc (by simp) _).alloc (by simp; omega) _
    have Y0 : Blk W w.heap.size #[.bool m, .slice a1 k1 c1, .slice a2 k2 c2] 89 := by rw [← hW]; exact ((Blk.new w _ _).alloc _).alloc _
    have Y1 : Blk W (w.heap.size + 1) #[.bool m, .slice a3 k3 c3, .slice a4 k4 c4] 89 := by rw [← hW]; exact (Blk.made (w.alloc _) _ _ (by simp)).alloc _
    have Y2 : Blk W (w.heap.size + 1 + 1) #[.bool false, .slice none 0 0, .slice none 0 0] 89 := by rw [← hW]; exact Blk.made ((w.alloc _).alloc _) _ _ (by simp)
    have K : Hid (∀ w', Below W.heap.size W w' → w'.cell? ⟨w.heap.size, 0, none⟩ = some (.bool m) ∧ w'.cell? ⟨w.heap.size, 1, none⟩ = some (.slice a1 k1 c1) ∧ w'.cell? ⟨w.heap.size, 2, none⟩ = some (.slice a2 k2 c2) ∧ w'.cell? ⟨w.heap.size + 1, 0, none⟩ = some (.bool m) ∧ w'.cell? ⟨w.heap.size + 1, 1, none⟩ = some (.slice a3 k3 c3) ∧ w'.cell? ⟨w.heap.size + 1, 2, none⟩ = some (.slice a4 k4 c4)) := fun w' hb => ⟨(Y0.call hb).cell 0, (Y0.call hb).cell 1, (Y0.call hb).cell 2, (Y1.call hb).cell 0, (Y1.call hb).cell 1, (Y1.call hb).cell 2⟩
    have HY0 := hid Y0; have HY1 := hid Y1; have HY2 := hid Y2; have HX0 := hid X0
    obtain ⟨i0, i1, i2, i3, i4, i5⟩ := K W (Below.refl _ _)
    clear Y0 Y1 Y2 X0 hW
    have XN1 := hid (HN1.out.call HX0.out); have XD1 := hid (HD1.out.call HX0.out); have XN2 := hid (HN2.out.call HX0.out); have XD2 := hid (HD2.out.call HX0.out)
    go_region_held3 (fun w' => w'.cell? ⟨w.heap.size, 0, none⟩ = some (.bool m) ∧ w'.cell? ⟨w.heap.size, 1, none⟩ = some (.slice a1 k1 c1) ∧ w'.cell? ⟨w.heap.size, 2, none⟩ = some (.slice a2 k2 c2) ∧ w'.cell? ⟨w.heap.size + 1, 0, none⟩ = some (.bool m) ∧ w'.cell? ⟨w.heap.size + 1, 1, none⟩ = some (.slice a3 k3 c3) ∧ w'.cell? ⟨w.heap.size + 1, 2, none⟩ = some (.slice a4 k4 c4))
      (first
        | exact K.out _ (Below.refl _ _).drew
        | exact K.out _ bb2.out
        | exact K.out _ bb1.out)
      (first
        | (go_at_call_of 54 (Value.slice a1 k1 c1); refine (r1_Times _ _ _ n1 d2 (XN1.out.call (by first | exact bb2.out | exact (Below.refl _ _).drew)) (XD2.out.call (by first | exact bb2.out | exact (Below.refl _ _).drew)) H1.out H4.out).mono ?_; rintro e w1 ⟨⟨v1, rfl, hv1⟩, hb1⟩; have bb1 := hid (bnext (by first | exact bb2.out | exact (Below.refl _ _).drew) hb1))
        | (go_at_call_of 54 (Value.slice a3 k3 c3); refine (r1_Times _ _ _ n2 d1 (XN2.out.call (by first | exact bb1.out | exact (Below.refl _ _).drew)) (XD1.out.call (by first | exact bb1.out | exact (Below.refl _ _).drew)) H3.out H2.out).mono ?_; rintro e w2 ⟨⟨v2, rfl, hv2⟩, hb2⟩; have bb2 := hid (bnext (by first | exact bb1.out | exact (Below.refl _ _).drew) hb2)))
    have V2 := hid hv2; have V1 := hid (hv1.call hb2)
    rw [HX.out] at V1
    rw [HY.out] at V2
    clear hv1 hv2 hb1 hb2 i0 i1 i2 i3 i4 i5
    obtain ⟨i0, i1, i2, i3, i4, i5⟩ := K.out _ bb2.out
    go_wp2_with fail
    refine (r1_Times _ _ _ d1 d2 (XD1.out.call bb2.out) (XD2.out.call bb2.out) H2.out H4.out).mono ?_; rintro e w3 ⟨⟨v3, rfl, hv3⟩, hb3⟩
    have bb3 := hid (bnext bb2.out hb3)
    rw [HZ.out] at hv3
    have V3 := hid hv3
    have V1' := hid (V1.out.call hb3); have V2' := hid (V2.out.call hb3)
    clear hv3 hb3 i0 i1 i2 i3 i4 i5 V1 V2
    obtain ⟨i0, i1, i2, i3, i4, i5⟩ := K.out _ bb3.out
    obtain ⟨ja1, jc1, rfl, _⟩ := V1'.out.openI
    obtain ⟨ja2, jc2, rfl, _⟩ := V2'.out.openI
    obtain ⟨ja3, jc3, rfl, _⟩ := V3.out.openI
    obtain ⟨jk1, hj1⟩ : ∃ k, (limbs x).length = k := ⟨_, rfl⟩
    obtain ⟨jk2, hj2⟩ : ∃ k, (limbs y).length = k := ⟨_, rfl⟩
    obtain ⟨jk3, hj3⟩ : ∃ k, (limbs z).length = k := ⟨_, rfl⟩
    rw [hj1] at V1' ⊢
    rw [hj2] at V2' ⊢
    rw [hj3] at V3 ⊢
    clear hj1 hj2 hj3
    go_wp2_with fail
    have K2 : Hid (∀ w1 x y z, Below W.heap.size W w1 → ∀ w', ((w1.setCell ⟨w.heap.size + 1 + 1, 0, none⟩ x).setCell ⟨w.heap.size + 1 + 1, 1, none⟩ y).setCell ⟨w.heap.size + 1 + 1, 2, none⟩ z = w' → w'.cell? ⟨w.heap.size, 0, none⟩ = some (.bool m) ∧ w'.cell? ⟨w.heap.size, 1, none⟩ = some (.slice a1 k1 c1) ∧ w'.cell? ⟨w.heap.size, 2, none⟩ = some (.slice a2 k2 c2) ∧ w'.cell? ⟨w.heap.size + 1, 0, none⟩ = some (.bool m) ∧ w'.cell? ⟨w.heap.size + 1, 1, none⟩ = some (.slice a3 k3 c3) ∧ w'.cell? ⟨w.heap.size + 1, 2, none⟩ = some (.slice a4 k4 c4)) := by
      rintro w1 x y z hb _ rfl
      have Z0 := (((HY0.out.call hb).other (a := ⟨w.heap.size + 1 + 1, 0, none⟩) (by simp; omega) x).other (a := ⟨w.heap.size + 1 + 1, 1, none⟩) (by simp; omega) y).other (a := ⟨w.heap.size + 1 + 1, 2, none⟩) (by simp; omega) z
      have Z1 := (((HY1.out.call hb).other (a := ⟨w.heap.size + 1 + 1, 0, none⟩) (by simp) x).other (a := ⟨w.heap.size + 1 + 1, 1, none⟩) (by simp) y).other (a := ⟨w.heap.size + 1 + 1, 2, none⟩) (by simp) z
      exact ⟨Z0.cell 0, Z0.cell 1, Z0.cell 2, Z1.cell 0, Z1.cell 1, Z1.cell 2⟩
    go_region_held3 (fun w' => w'.cell? ⟨w.heap.size, 0, none⟩ = some (.bool m) ∧ w'.cell? ⟨w.heap.size, 1, none⟩ = some (.slice a1 k1 c1) ∧ w'.cell? ⟨w.heap.size, 2, none⟩ = some (.slice a2 k2 c2) ∧ w'.cell? ⟨w.heap.size + 1, 0, none⟩ = some (.bool m) ∧ w'.cell? ⟨w.heap.size + 1, 1, none⟩ = some (.slice a3 k3 c3) ∧ w'.cell? ⟨w.heap.size + 1, 2, none⟩ = some (.slice a4 k4 c4))
      (first
        | exact K.out _ (by first | exact bb3.out.drew | exact below_drewN bb3.out _)
        | exact K2.out _ _ _ _ bb6.out _ rfl
        | exact K.out _ bb6.out
        | exact K.out _ bb5.out)
      (first
        | (go_at_call 59; refine (r1_Plus _ _ _ x y (V1'.out.call (by first | exact (Below.refl _ _).drew | exact below_drewN (Below.refl _ _) _ | exact Below.refl _ _)) (V2'.out.call (by first | exact (Below.refl _ _).drew | exact below_drewN (Below.refl _ _) _ | exact Below.refl _ _)) L1.out L2.out).mono ?_; rintro e w5 ⟨⟨v5, rfl, hv5⟩, hb5⟩; have bb5 := hid (bnext (by first | exact bb3.out.drew | exact below_drewN bb3.out _ | exact bb3.out) hb5); have V5 := hid hv5; have Z5 := hid ((V3.out.call (Below.refl _ _).drew).call hb5))
        | (go_at_call 113; refine (r2_Reduce _ _ _ _ (x + y) z V5.out Z5.out hD.out LS.out L3.out).mono ?_; rintro e w6 ⟨⟨v6, rfl, hv6⟩, hb6⟩; obtain ⟨N6, D6, rfl, hN6, hD6⟩ := hv6.ex; have bb6 := hid (bnext bb5.out hb6); obtain ⟨a5, c5, rfl, _⟩ := hN6.openI; obtain ⟨a6, c6, rfl, _⟩ := hD6.openI; have HN6 := hid hN6; have HD6 := hid hD6; have Z := hid (HY2.out.call bb6.out); have t0 := Z.out.cell 0; have t1 := Z.out.cell 1; have t2 := Z.out.cell 2; have t3 := Z.out.free 0; have t4 := Z.out.free 1; have t5 := Z.out.free 2; clear hv6 hN6 hD6))
    go_wp2_with fail
    obtain ⟨s1, s2⟩ := set3 Z.out (decide ((qmk m (x + y) z).num < 0)) a5 a6 (limbs (qmk m (x + y) z).num.natAbs).length c5 (limbs (qmk m (x + y) z).den).length c6
    have f0 := s2.cell 0
    have f1 := s2.cell 1
    have f2 := s2.cell 2
    simp at f0 f1 f2
    refine bodyPost_ret (v := .agg #[.bool (decide ((qmk m (x + y) z).num < 0)), .slice a5 (limbs (qmk m (x + y) z).num.natAbs).length c5, .slice a6 (limbs (qmk m (x + y) z).den).length c6]) (by simp [results, Tryz.results72, go_sem, f0, f1, f2]) rfl ⟨⟨_, rfl, ⟨_, _, rfl, s1 _ _ _ HN6.out, s1 _ _ _ HD6.out⟩⟩, ?_⟩
    exact (((HX0.out.trans (bb6.out.mono (Nat.le_trans (Nat.le_refl _) HX0.out.size))).setCell (by simp; omega) _).setCell (by simp; omega) _).setCell (by simp; omega) _

  · have HLT := hid hlt; have HLE := hid (Nat.le_of_lt hlt)
    clear hlt
    go_enter Tryz.func72, Tryz.ntmps72
    go_wp2_with fail
    obtain ⟨W, hW⟩ : ∃ W, ((w.alloc (.cells #[.bool m1, .slice a1 k1 c1, .slice a2 k2 c2] 89)).alloc (.cells #[.bool m, .slice a3 k3 c3, .slice a4 k4 c4] 89)).alloc (.cells #[.bool false, .slice none 0 0, .slice none 0 0] 89) = W := ⟨_, rfl⟩
    rw [hW]
    have X0 : Below w.heap.size w W := by rw [← hW]; exact (((Below.refl _ _).alloc (Nat.le_refl _) _).alloc (by simp) _).alloc (by simp; omega) _
    have Y0 : Blk W w.heap.size #[.bool m1, .slice a1 k1 c1, .slice a2 k2 c2] 89 := by rw [← hW]; exact ((Blk.new w _ _).alloc _).alloc _
    have Y1 : Blk W (w.heap.size + 1) #[.bool m, .slice a3 k3 c3, .slice a4 k4 c4] 89 := by rw [← hW]; exact (Blk.made (w.alloc _) _ _ (by simp)).alloc _
    have Y2 : Blk W (w.heap.size + 1 + 1) #[.bool false, .slice none 0 0, .slice none 0 0] 89 := by rw [← hW]; exact Blk.made ((w.alloc _).alloc _) _ _ (by simp)
    have K : Hid (∀ w', Below W.heap.size W w' → w'.cell? ⟨w.heap.size, 0, none⟩ = some (.bool m1) ∧ w'.cell? ⟨w.heap.size, 1, none⟩ = some (.slice a1 k1 c1) ∧ w'.cell? ⟨w.heap.size, 2, none⟩ = some (.slice a2 k2 c2) ∧ w'.cell? ⟨w.heap.size + 1, 0, none⟩ = some (.bool m) ∧ w'.cell? ⟨w.heap.size + 1, 1, none⟩ = some (.slice a3 k3 c3) ∧ w'.cell? ⟨w.heap.size + 1, 2, none⟩ = some (.slice a4 k4 c4)) := fun w' hb => ⟨(Y0.call hb).cell 0, (Y0.call hb).cell 1, (Y0.call hb).cell 2, (Y1.call hb).cell 0, (Y1.call hb).cell 1, (Y1.call hb).cell 2⟩
    have HY0 := hid Y0; have HY1 := hid Y1; have HY2 := hid Y2; have HX0 := hid X0
    obtain ⟨i0, i1, i2, i3, i4, i5⟩ := K W (Below.refl _ _)
    clear Y0 Y1 Y2 X0 hW
    have XN1 := hid (HN1.out.call HX0.out); have XD1 := hid (HD1.out.call HX0.out); have XN2 := hid (HN2.out.call HX0.out); have XD2 := hid (HD2.out.call HX0.out)
    go_region_held3 (fun w' => w'.cell? ⟨w.heap.size, 0, none⟩ = some (.bool m1) ∧ w'.cell? ⟨w.heap.size, 1, none⟩ = some (.slice a1 k1 c1) ∧ w'.cell? ⟨w.heap.size, 2, none⟩ = some (.slice a2 k2 c2) ∧ w'.cell? ⟨w.heap.size + 1, 0, none⟩ = some (.bool m) ∧ w'.cell? ⟨w.heap.size + 1, 1, none⟩ = some (.slice a3 k3 c3) ∧ w'.cell? ⟨w.heap.size + 1, 2, none⟩ = some (.slice a4 k4 c4))
      (first
        | exact K.out _ (Below.refl _ _).drew
        | exact K.out _ bb2.out
        | exact K.out _ bb1.out)
      (first
        | (go_at_call_of 54 (Value.slice a1 k1 c1); refine (r1_Times _ _ _ n1 d2 (XN1.out.call (by first | exact bb2.out | exact (Below.refl _ _).drew)) (XD2.out.call (by first | exact bb2.out | exact (Below.refl _ _).drew)) H1.out H4.out).mono ?_; rintro e w1 ⟨⟨v1, rfl, hv1⟩, hb1⟩; have bb1 := hid (bnext (by first | exact bb2.out | exact (Below.refl _ _).drew) hb1))
        | (go_at_call_of 54 (Value.slice a3 k3 c3); refine (r1_Times _ _ _ n2 d1 (XN2.out.call (by first | exact bb1.out | exact (Below.refl _ _).drew)) (XD1.out.call (by first | exact bb1.out | exact (Below.refl _ _).drew)) H3.out H2.out).mono ?_; rintro e w2 ⟨⟨v2, rfl, hv2⟩, hb2⟩; have bb2 := hid (bnext (by first | exact bb1.out | exact (Below.refl _ _).drew) hb2)))
    have V2 := hid hv2; have V1 := hid (hv1.call hb2)
    rw [HX.out] at V1
    rw [HY.out] at V2
    clear hv1 hv2 hb1 hb2 i0 i1 i2 i3 i4 i5
    obtain ⟨i0, i1, i2, i3, i4, i5⟩ := K.out _ bb2.out
    go_wp2_with fail
    refine (r1_Times _ _ _ d1 d2 (XD1.out.call bb2.out) (XD2.out.call bb2.out) H2.out H4.out).mono ?_; rintro e w3 ⟨⟨v3, rfl, hv3⟩, hb3⟩
    have bb3 := hid (bnext bb2.out hb3)
    rw [HZ.out] at hv3
    have V3 := hid hv3
    have V1' := hid (V1.out.call hb3); have V2' := hid (V2.out.call hb3)
    clear hv3 hb3 i0 i1 i2 i3 i4 i5 V1 V2
    obtain ⟨i0, i1, i2, i3, i4, i5⟩ := K.out _ bb3.out
    obtain ⟨ja1, jc1, rfl, _⟩ := V1'.out.openI
    obtain ⟨ja2, jc2, rfl, _⟩ := V2'.out.openI
    obtain ⟨ja3, jc3, rfl, _⟩ := V3.out.openI
    obtain ⟨jk1, hj1⟩ : ∃ k, (limbs x).length = k := ⟨_, rfl⟩
    obtain ⟨jk2, hj2⟩ : ∃ k, (limbs y).length = k := ⟨_, rfl⟩
    obtain ⟨jk3, hj3⟩ : ∃ k, (limbs z).length = k := ⟨_, rfl⟩
    rw [hj1] at V1' ⊢
    rw [hj2] at V2' ⊢
    rw [hj3] at V3 ⊢
    clear hj1 hj2 hj3
    go_wp2_with fail
    refine (r1_Order _ _ _ x y V1'.out V2'.out).mono ?_; rintro e w4 ⟨rfl, hb4⟩
    have bb4 := hid (bnext bb3.out hb4)
    have W1 := hid (V1'.out.call hb4); have W2 := hid (V2'.out.call hb4); have W3 := hid (V3.out.call hb4)
    clear hb4 i0 i1 i2 i3 i4 i5
    obtain ⟨i0, i1, i2, i3, i4, i5⟩ := K.out _ bb4.out
    rw [ordN_lt HLT.out]
    go_wp2_with fail
    have K2 : Hid (∀ w1 x y z, Below W.heap.size W w1 → ∀ w', ((w1.setCell ⟨w.heap.size + 1 + 1, 0, none⟩ x).setCell ⟨w.heap.size + 1 + 1, 1, none⟩ y).setCell ⟨w.heap.size + 1 + 1, 2, none⟩ z = w' → w'.cell? ⟨w.heap.size, 0, none⟩ = some (.bool m1) ∧ w'.cell? ⟨w.heap.size, 1, none⟩ = some (.slice a1 k1 c1) ∧ w'.cell? ⟨w.heap.size, 2, none⟩ = some (.slice a2 k2 c2) ∧ w'.cell? ⟨w.heap.size + 1, 0, none⟩ = some (.bool m) ∧ w'.cell? ⟨w.heap.size + 1, 1, none⟩ = some (.slice a3 k3 c3) ∧ w'.cell? ⟨w.heap.size + 1, 2, none⟩ = some (.slice a4 k4 c4)) := by
      rintro w1 x y z hb _ rfl
      have Z0 := (((HY0.out.call hb).other (a := ⟨w.heap.size + 1 + 1, 0, none⟩) (by simp; omega) x).other (a := ⟨w.heap.size + 1 + 1, 1, none⟩) (by simp; omega) y).other (a := ⟨w.heap.size + 1 + 1, 2, none⟩) (by simp; omega) z
      have Z1 := (((HY1.out.call hb).other (a := ⟨w.heap.size + 1 + 1, 0, none⟩) (by simp) x).other (a := ⟨w.heap.size + 1 + 1, 1, none⟩) (by simp) y).other (a := ⟨w.heap.size + 1 + 1, 2, none⟩) (by simp) z
      exact ⟨Z0.cell 0, Z0.cell 1, Z0.cell 2, Z1.cell 0, Z1.cell 1, Z1.cell 2⟩
    go_region_held3 (fun w' => w'.cell? ⟨w.heap.size, 0, none⟩ = some (.bool m1) ∧ w'.cell? ⟨w.heap.size, 1, none⟩ = some (.slice a1 k1 c1) ∧ w'.cell? ⟨w.heap.size, 2, none⟩ = some (.slice a2 k2 c2) ∧ w'.cell? ⟨w.heap.size + 1, 0, none⟩ = some (.bool m) ∧ w'.cell? ⟨w.heap.size + 1, 1, none⟩ = some (.slice a3 k3 c3) ∧ w'.cell? ⟨w.heap.size + 1, 2, none⟩ = some (.slice a4 k4 c4))
      (first
        | exact K.out _ (by first | exact bb4.out.drew | exact below_drewN bb4.out _)
        | exact K2.out _ _ _ _ bb6.out _ rfl
        | exact K.out _ bb6.out
        | exact K.out _ bb5.out)
      (first
        | (go_at_call 120; refine (r1_Minus _ _ _ y x (W2.out.call (by first | exact (Below.refl _ _).drew | exact below_drewN (Below.refl _ _) _ | exact Below.refl _ _)) (W1.out.call (by first | exact (Below.refl _ _).drew | exact below_drewN (Below.refl _ _) _ | exact Below.refl _ _)) HLE.out L2.out).mono ?_; rintro e w5 ⟨⟨v5, rfl, hv5⟩, hb5⟩; have bb5 := hid (bnext (by first | exact bb4.out.drew | exact below_drewN bb4.out _ | exact bb4.out) hb5); have V5 := hid hv5; have Z5 := hid ((W3.out.call (Below.refl _ _).drew).call hb5))
        | (go_at_call 113; refine (r2_Reduce _ _ _ _ (y - x) z V5.out Z5.out hD.out LS.out L3.out).mono ?_; rintro e w6 ⟨⟨v6, rfl, hv6⟩, hb6⟩; obtain ⟨N6, D6, rfl, hN6, hD6⟩ := hv6.ex; have bb6 := hid (bnext bb5.out hb6); obtain ⟨a5, c5, rfl, _⟩ := hN6.openI; obtain ⟨a6, c6, rfl, _⟩ := hD6.openI; have HN6 := hid hN6; have HD6 := hid hD6; have Z := hid (HY2.out.call bb6.out); have t0 := Z.out.cell 0; have t1 := Z.out.cell 1; have t2 := Z.out.cell 2; have t3 := Z.out.free 0; have t4 := Z.out.free 1; have t5 := Z.out.free 2; clear hv6 hN6 hD6))
    go_wp2_with fail
    obtain ⟨s1, s2⟩ := set3 Z.out (decide ((qmk m (y - x) z).num < 0)) a5 a6 (limbs (qmk m (y - x) z).num.natAbs).length c5 (limbs (qmk m (y - x) z).den).length c6
    have f0 := s2.cell 0
    have f1 := s2.cell 1
    have f2 := s2.cell 2
    simp at f0 f1 f2
    refine bodyPost_ret (v := .agg #[.bool (decide ((qmk m (y - x) z).num < 0)), .slice a5 (limbs (qmk m (y - x) z).num.natAbs).length c5, .slice a6 (limbs (qmk m (y - x) z).den).length c6]) (by simp [results, Tryz.results72, go_sem, f0, f1, f2]) rfl ⟨⟨_, rfl, ⟨_, _, rfl, s1 _ _ _ HN6.out, s1 _ _ _ HD6.out⟩⟩, ?_⟩
    exact (((HX0.out.trans (bb6.out.mono (Nat.le_trans (Nat.le_refl _) HX0.out.size))).setCell (by simp; omega) _).setCell (by simp; omega) _).setCell (by simp; omega) _
  · have HLE := hid hle
    clear hle
    go_enter Tryz.func72, Tryz.ntmps72
    go_wp2_with fail
    obtain ⟨W, hW⟩ : ∃ W, ((w.alloc (.cells #[.bool m, .slice a1 k1 c1, .slice a2 k2 c2] 89)).alloc (.cells #[.bool m2, .slice a3 k3 c3, .slice a4 k4 c4] 89)).alloc (.cells #[.bool false, .slice none 0 0, .slice none 0 0] 89) = W := ⟨_, rfl⟩
    rw [hW]
    have X0 : Below w.heap.size w W := by rw [← hW]; exact (((Below.refl _ _).alloc (Nat.le_refl _) _).alloc (by simp) _).alloc (by simp; omega) _
    have Y0 : Blk W w.heap.size #[.bool m, .slice a1 k1 c1, .slice a2 k2 c2] 89 := by rw [← hW]; exact ((Blk.new w _ _).alloc _).alloc _
    have Y1 : Blk W (w.heap.size + 1) #[.bool m2, .slice a3 k3 c3, .slice a4 k4 c4] 89 := by rw [← hW]; exact (Blk.made (w.alloc _) _ _ (by simp)).alloc _
    have Y2 : Blk W (w.heap.size + 1 + 1) #[.bool false, .slice none 0 0, .slice none 0 0] 89 := by rw [← hW]; exact Blk.made ((w.alloc _).alloc _) _ _ (by simp)
    have K : Hid (∀ w', Below W.heap.size W w' → w'.cell? ⟨w.heap.size, 0, none⟩ = some (.bool m) ∧ w'.cell? ⟨w.heap.size, 1, none⟩ = some (.slice a1 k1 c1) ∧ w'.cell? ⟨w.heap.size, 2, none⟩ = some (.slice a2 k2 c2) ∧ w'.cell? ⟨w.heap.size + 1, 0, none⟩ = some (.bool m2) ∧ w'.cell? ⟨w.heap.size + 1, 1, none⟩ = some (.slice a3 k3 c3) ∧ w'.cell? ⟨w.heap.size + 1, 2, none⟩ = some (.slice a4 k4 c4)) := fun w' hb => ⟨(Y0.call hb).cell 0, (Y0.call hb).cell 1, (Y0.call hb).cell 2, (Y1.call hb).cell 0, (Y1.call hb).cell 1, (Y1.call hb).cell 2⟩
    have HY0 := hid Y0; have HY1 := hid Y1; have HY2 := hid Y2; have HX0 := hid X0
    obtain ⟨i0, i1, i2, i3, i4, i5⟩ := K W (Below.refl _ _)
    clear Y0 Y1 Y2 X0 hW
    have XN1 := hid (HN1.out.call HX0.out); have XD1 := hid (HD1.out.call HX0.out); have XN2 := hid (HN2.out.call HX0.out); have XD2 := hid (HD2.out.call HX0.out)
    go_region_held3 (fun w' => w'.cell? ⟨w.heap.size, 0, none⟩ = some (.bool m) ∧ w'.cell? ⟨w.heap.size, 1, none⟩ = some (.slice a1 k1 c1) ∧ w'.cell? ⟨w.heap.size, 2, none⟩ = some (.slice a2 k2 c2) ∧ w'.cell? ⟨w.heap.size + 1, 0, none⟩ = some (.bool m2) ∧ w'.cell? ⟨w.heap.size + 1, 1, none⟩ = some (.slice a3 k3 c3) ∧ w'.cell? ⟨w.heap.size + 1, 2, none⟩ = some (.slice a4 k4 c4))
      (first
        | exact K.out _ (Below.refl _ _).drew
        | exact K.out _ bb2.out
        | exact K.out _ bb1.out)
      (first
        | (go_at_call_of 54 (Value.slice a1 k1 c1); refine (r1_Times _ _ _ n1 d2 (XN1.out.call (by first | exact bb2.out | exact (Below.refl _ _).drew)) (XD2.out.call (by first | exact bb2.out | exact (Below.refl _ _).drew)) H1.out H4.out).mono ?_; rintro e w1 ⟨⟨v1, rfl, hv1⟩, hb1⟩; have bb1 := hid (bnext (by first | exact bb2.out | exact (Below.refl _ _).drew) hb1))
        | (go_at_call_of 54 (Value.slice a3 k3 c3); refine (r1_Times _ _ _ n2 d1 (XN2.out.call (by first | exact bb1.out | exact (Below.refl _ _).drew)) (XD1.out.call (by first | exact bb1.out | exact (Below.refl _ _).drew)) H3.out H2.out).mono ?_; rintro e w2 ⟨⟨v2, rfl, hv2⟩, hb2⟩; have bb2 := hid (bnext (by first | exact bb1.out | exact (Below.refl _ _).drew) hb2)))
    have V2 := hid hv2; have V1 := hid (hv1.call hb2)
    rw [HX.out] at V1
    rw [HY.out] at V2
    clear hv1 hv2 hb1 hb2 i0 i1 i2 i3 i4 i5
    obtain ⟨i0, i1, i2, i3, i4, i5⟩ := K.out _ bb2.out
    go_wp2_with fail
    refine (r1_Times _ _ _ d1 d2 (XD1.out.call bb2.out) (XD2.out.call bb2.out) H2.out H4.out).mono ?_; rintro e w3 ⟨⟨v3, rfl, hv3⟩, hb3⟩
    have bb3 := hid (bnext bb2.out hb3)
    rw [HZ.out] at hv3
    have V3 := hid hv3
    have V1' := hid (V1.out.call hb3); have V2' := hid (V2.out.call hb3)
    clear hv3 hb3 i0 i1 i2 i3 i4 i5 V1 V2
    obtain ⟨i0, i1, i2, i3, i4, i5⟩ := K.out _ bb3.out
    obtain ⟨ja1, jc1, rfl, _⟩ := V1'.out.openI
    obtain ⟨ja2, jc2, rfl, _⟩ := V2'.out.openI
    obtain ⟨ja3, jc3, rfl, _⟩ := V3.out.openI
    obtain ⟨jk1, hj1⟩ : ∃ k, (limbs x).length = k := ⟨_, rfl⟩
    obtain ⟨jk2, hj2⟩ : ∃ k, (limbs y).length = k := ⟨_, rfl⟩
    obtain ⟨jk3, hj3⟩ : ∃ k, (limbs z).length = k := ⟨_, rfl⟩
    rw [hj1] at V1' ⊢
    rw [hj2] at V2' ⊢
    rw [hj3] at V3 ⊢
    clear hj1 hj2 hj3
    go_wp2_with fail
    refine (r1_Order _ _ _ x y V1'.out V2'.out).mono ?_; rintro e w4 ⟨rfl, hb4⟩
    have bb4 := hid (bnext bb3.out hb4)
    have W1 := hid (V1'.out.call hb4); have W2 := hid (V2'.out.call hb4); have W3 := hid (V3.out.call hb4)
    clear hb4 i0 i1 i2 i3 i4 i5
    obtain ⟨i0, i1, i2, i3, i4, i5⟩ := K.out _ bb4.out
    obtain ⟨t, ht⟩ : ∃ t, ordN x y = t := ⟨_, rfl⟩
    have q7 : decide (t < 0) = false := by rw [← ht]; exact ord_ge HLE.out
    rw [ht]
    clear ht
    go_wp2_with fail
    have K2 : Hid (∀ w1 x y z, Below W.heap.size W w1 → ∀ w', ((w1.setCell ⟨w.heap.size + 1 + 1, 0, none⟩ x).setCell ⟨w.heap.size + 1 + 1, 1, none⟩ y).setCell ⟨w.heap.size + 1 + 1, 2, none⟩ z = w' → w'.cell? ⟨w.heap.size, 0, none⟩ = some (.bool m) ∧ w'.cell? ⟨w.heap.size, 1, none⟩ = some (.slice a1 k1 c1) ∧ w'.cell? ⟨w.heap.size, 2, none⟩ = some (.slice a2 k2 c2) ∧ w'.cell? ⟨w.heap.size + 1, 0, none⟩ = some (.bool m2) ∧ w'.cell? ⟨w.heap.size + 1, 1, none⟩ = some (.slice a3 k3 c3) ∧ w'.cell? ⟨w.heap.size + 1, 2, none⟩ = some (.slice a4 k4 c4)) := by
      rintro w1 x y z hb _ rfl
      have Z0 := (((HY0.out.call hb).other (a := ⟨w.heap.size + 1 + 1, 0, none⟩) (by simp; omega) x).other (a := ⟨w.heap.size + 1 + 1, 1, none⟩) (by simp; omega) y).other (a := ⟨w.heap.size + 1 + 1, 2, none⟩) (by simp; omega) z
      have Z1 := (((HY1.out.call hb).other (a := ⟨w.heap.size + 1 + 1, 0, none⟩) (by simp) x).other (a := ⟨w.heap.size + 1 + 1, 1, none⟩) (by simp) y).other (a := ⟨w.heap.size + 1 + 1, 2, none⟩) (by simp) z
      exact ⟨Z0.cell 0, Z0.cell 1, Z0.cell 2, Z1.cell 0, Z1.cell 1, Z1.cell 2⟩
    go_region_held3 (fun w' => w'.cell? ⟨w.heap.size, 0, none⟩ = some (.bool m) ∧ w'.cell? ⟨w.heap.size, 1, none⟩ = some (.slice a1 k1 c1) ∧ w'.cell? ⟨w.heap.size, 2, none⟩ = some (.slice a2 k2 c2) ∧ w'.cell? ⟨w.heap.size + 1, 0, none⟩ = some (.bool m2) ∧ w'.cell? ⟨w.heap.size + 1, 1, none⟩ = some (.slice a3 k3 c3) ∧ w'.cell? ⟨w.heap.size + 1, 2, none⟩ = some (.slice a4 k4 c4))
      (first
        | exact K.out _ (by first | exact bb4.out.drew | exact below_drewN bb4.out _)
        | exact K2.out _ _ _ _ bb6.out _ rfl
        | exact K.out _ bb6.out
        | exact K.out _ bb5.out)
      (first
        | (go_at_call 120; refine (r1_Minus _ _ _ x y (W1.out.call (by first | exact (Below.refl _ _).drew | exact below_drewN (Below.refl _ _) _ | exact Below.refl _ _)) (W2.out.call (by first | exact (Below.refl _ _).drew | exact below_drewN (Below.refl _ _) _ | exact Below.refl _ _)) HLE.out L1.out).mono ?_; rintro e w5 ⟨⟨v5, rfl, hv5⟩, hb5⟩; have bb5 := hid (bnext (by first | exact bb4.out.drew | exact below_drewN bb4.out _ | exact bb4.out) hb5); have V5 := hid hv5; have Z5 := hid ((W3.out.call (Below.refl _ _).drew).call hb5))
        | (go_at_call 113; refine (r2_Reduce _ _ _ _ (x - y) z V5.out Z5.out hD.out LS.out L3.out).mono ?_; rintro e w6 ⟨⟨v6, rfl, hv6⟩, hb6⟩; obtain ⟨N6, D6, rfl, hN6, hD6⟩ := hv6.ex; have bb6 := hid (bnext bb5.out hb6); obtain ⟨a5, c5, rfl, _⟩ := hN6.openI; obtain ⟨a6, c6, rfl, _⟩ := hD6.openI; have HN6 := hid hN6; have HD6 := hid hD6; have Z := hid (HY2.out.call bb6.out); have t0 := Z.out.cell 0; have t1 := Z.out.cell 1; have t2 := Z.out.cell 2; have t3 := Z.out.free 0; have t4 := Z.out.free 1; have t5 := Z.out.free 2; clear hv6 hN6 hD6))
    go_wp2_with fail
    obtain ⟨s1, s2⟩ := set3 Z.out (decide ((qmk m (x - y) z).num < 0)) a5 a6 (limbs (qmk m (x - y) z).num.natAbs).length c5 (limbs (qmk m (x - y) z).den).length c6
    have f0 := s2.cell 0
    have f1 := s2.cell 1
    have f2 := s2.cell 2
    simp at f0 f1 f2
    refine bodyPost_ret (v := .agg #[.bool (decide ((qmk m (x - y) z).num < 0)), .slice a5 (limbs (qmk m (x - y) z).num.natAbs).length c5, .slice a6 (limbs (qmk m (x - y) z).den).length c6]) (by simp [results, Tryz.results72, go_sem, f0, f1, f2]) rfl ⟨⟨_, rfl, ⟨_, _, rfl, s1 _ _ _ HN6.out, s1 _ _ _ HD6.out⟩⟩, ?_⟩
    exact (((HX0.out.trans (bb6.out.mono (Nat.le_trans (Nat.le_refl _) HX0.out.size))).setCell (by simp; omega) _).setCell (by simp; omega) _).setCell (by simp; omega) _

theorem r2_Plus (w : World) (v u : Value) (p q : Rat) (hp : IsQ .i64 w v p) (hq : IsQ .i64 w u q)
    (h1 : (limbs p.num.natAbs).length ≤ 100000) (h2 : (limbs p.den).length ≤ 100000) (h3 : (limbs q.num.natAbs).length ≤ 100000) (h4 : (limbs q.den).length ≤ 100000) :
    Calls Tryz.prog 72 #[v, u] w fun e w' => RetQ .i64 (p + q) e w' ∧ Below w.heap.size w w' := by
  obtain ⟨N1, D1, rfl, hn1, hd1⟩ := hp.ex
  obtain ⟨N2, D2, rfl, hn2, hd2⟩ := hq.ex
  have he := q_add p q
  have hw := fun m s key => r2_Plus_walk w (decide (p.num < 0)) (decide (q.num < 0)) m N1 D1 N2 D2 _ _ _ _ s hn1 hd1 hn2 hd2 h1 h2 h3 h4 p.den_pos q.den_pos key
  rw [he]
  generalize decide (p.num < 0) = m1 at *
  generalize decide (q.num < 0) = m2 at *
  by_cases hm : m1 = m2
  · subst hm
    rw [sgn_same]
    exact hw m1 _ (.inl ⟨rfl, rfl, rfl⟩)
  · have hm' : (m1 == m2) = false := by simpa using hm
    rcases Nat.lt_or_ge (p.num.natAbs * q.den) (q.num.natAbs * p.den) with hl | hl
    · rw [sgn_less hm hl]
      exact hw m2 _ (.inr (.inl ⟨hm', hl, rfl, rfl⟩))
    · rw [sgn_more hm hl]
      exact hw m1 _ (.inr (.inr ⟨hm', hl, rfl, rfl⟩))
end Go.Proofs.YtjgcjjbnnlnilaaGreatDoor

/- Walks: the reference's Times. -/
namespace Go.Proofs.YtjgcjjbnnlnilaaGreatDoor
open Go.RowKit
set_option linter.unusedVariables false

set_option maxHeartbeats 2000000 in
theorem r2_Times (w : World) (v u : Value) (p q : Rat) (hp : IsQ .i64 w v p) (hq : IsQ .i64 w u q)
    (h1 : (limbs p.num.natAbs).length ≤ 100000) (h2 : (limbs p.den).length ≤ 100000) (h3 : (limbs q.num.natAbs).length ≤ 100000) (h4 : (limbs q.den).length ≤ 100000) :
    Calls Tryz.prog 71 #[v, u] w fun e w' => RetQ .i64 (p * q) e w' ∧ Below w.heap.size w w' := by
  have HQ := hid (qmk_mul p q)
  rw [← HQ.out]
  have hD := hid (Nat.mul_pos p.den_pos q.den_pos)
  obtain ⟨N1, D1, rfl, hn1, hd1⟩ := hp.ex
  obtain ⟨N2, D2, rfl, hn2, hd2⟩ := hq.ex
  clear hp hq HQ
  generalize decide (p.num < 0) = m1 at *
  generalize decide (q.num < 0) = m2 at *
  generalize p.num.natAbs = n1 at *
  generalize q.num.natAbs = n2 at *
  generalize p.den = d1 at *
  generalize q.den = d2 at *
  have HN1 := hid hn1; have HD1 := hid hd1; have HN2 := hid hn2; have HD2 := hid hd2
  have L1 := hid (Nat.le_trans (limbs_mul h1 h3) (show 100000 + 100000 ≤ 1000000 by omega))
  have L2 := hid (Nat.le_trans (limbs_mul h2 h4) (show 100000 + 100000 ≤ 1000000 by omega))
  have H1 := hid (Nat.le_trans h1 (show 100000 ≤ 1000000 by omega))
  have H2 := hid (Nat.le_trans h2 (show 100000 ≤ 1000000 by omega))
  have H3 := hid (Nat.le_trans h3 (show 100000 ≤ 1000000 by omega))
  have H4 := hid (Nat.le_trans h4 (show 100000 ≤ 1000000 by omega))
  clear h1 h2 h3 h4
  obtain ⟨a1, c1, rfl, _⟩ := hn1.openI
  obtain ⟨a2, c2, rfl, _⟩ := hd1.openI
  obtain ⟨a3, c3, rfl, _⟩ := hn2.openI
  obtain ⟨a4, c4, rfl, _⟩ := hd2.openI
  clear hn1 hd1 hn2 hd2
  go_enter Tryz.func71, Tryz.ntmps71
  go_wp2_with fail
  obtain ⟨W, hW⟩ : ∃ W, ((w.alloc (.cells #[.bool m1, .slice a1 (limbs n1).length c1, .slice a2 (limbs d1).length c2] 89)).alloc (.cells #[.bool m2, .slice a3 (limbs n2).length c3, .slice a4 (limbs d2).length c4] 89)).alloc (.cells #[.bool false, .slice none 0 0, .slice none 0 0] 89) = W := ⟨_, rfl⟩
  rw [hW]
  have X0 : Below w.heap.size w W := by rw [← hW]; exact (((Below.refl _ _).alloc (Nat.le_refl _) _).alloc (by simp) _).alloc (by simp; omega) _
  have Y0 : Blk W w.heap.size #[.bool m1, .slice a1 (limbs n1).length c1, .slice a2 (limbs d1).length c2] 89 := by rw [← hW]; exact ((Blk.new w _ _).alloc _).alloc _
  have Y1 : Blk W (w.heap.size + 1) #[.bool m2, .slice a3 (limbs n2).length c3, .slice a4 (limbs d2).length c4] 89 := by rw [← hW]; exact (Blk.made (w.alloc _) _ _ (by simp)).alloc _
  have Y2 : Blk W (w.heap.size + 1 + 1) #[.bool false, .slice none 0 0, .slice none 0 0] 89 := by rw [← hW]; exact Blk.made ((w.alloc _).alloc _) _ _ (by simp)
  have K0 : ∀ w', Blk w' w.heap.size #[.bool m1, .slice a1 (limbs n1).length c1, .slice a2 (limbs d1).length c2] 89 → Blk w' (w.heap.size + 1) #[.bool m2, .slice a3 (limbs n2).length c3, .slice a4 (limbs d2).length c4] 89 →
      w'.cell? ⟨w.heap.size, 0, none⟩ = some (.bool m1) ∧ w'.cell? ⟨w.heap.size, 1, none⟩ = some (.slice a1 (limbs n1).length c1) ∧ w'.cell? ⟨w.heap.size, 2, none⟩ = some (.slice a2 (limbs d1).length c2) ∧
      w'.cell? ⟨w.heap.size + 1, 0, none⟩ = some (.bool m2) ∧ w'.cell? ⟨w.heap.size + 1, 1, none⟩ = some (.slice a3 (limbs n2).length c3) ∧ w'.cell? ⟨w.heap.size + 1, 2, none⟩ = some (.slice a4 (limbs d2).length c4) :=
    fun w' y0 y1 => ⟨y0.cell 0, y0.cell 1, y0.cell 2, y1.cell 0, y1.cell 1, y1.cell 2⟩
  have K : Hid (∀ w', Below W.heap.size W w' → w'.cell? ⟨w.heap.size, 0, none⟩ = some (.bool m1) ∧ w'.cell? ⟨w.heap.size, 1, none⟩ = some (.slice a1 (limbs n1).length c1) ∧ w'.cell? ⟨w.heap.size, 2, none⟩ = some (.slice a2 (limbs d1).length c2) ∧
      w'.cell? ⟨w.heap.size + 1, 0, none⟩ = some (.bool m2) ∧ w'.cell? ⟨w.heap.size + 1, 1, none⟩ = some (.slice a3 (limbs n2).length c3) ∧ w'.cell? ⟨w.heap.size + 1, 2, none⟩ = some (.slice a4 (limbs d2).length c4)) := fun w' hb => K0 w' (Y0.call hb) (Y1.call hb)
  have K2 : Hid (∀ w1 x y z, Below W.heap.size W w1 → ∀ w', ((w1.setCell ⟨w.heap.size + 1 + 1, 0, none⟩ x).setCell ⟨w.heap.size + 1 + 1, 1, none⟩ y).setCell ⟨w.heap.size + 1 + 1, 2, none⟩ z = w' → w'.cell? ⟨w.heap.size, 0, none⟩ = some (.bool m1) ∧ w'.cell? ⟨w.heap.size, 1, none⟩ = some (.slice a1 (limbs n1).length c1) ∧ w'.cell? ⟨w.heap.size, 2, none⟩ = some (.slice a2 (limbs d1).length c2) ∧
      w'.cell? ⟨w.heap.size + 1, 0, none⟩ = some (.bool m2) ∧ w'.cell? ⟨w.heap.size + 1, 1, none⟩ = some (.slice a3 (limbs n2).length c3) ∧ w'.cell? ⟨w.heap.size + 1, 2, none⟩ = some (.slice a4 (limbs d2).length c4)) := by
    rintro w1 x y z hb _ rfl
    exact K0 _ ((((Y0.call hb).other (by simp; omega) _).other (by simp; omega) _).other (by simp; omega) _) ((((Y1.call hb).other (by simp) _).other (by simp) _).other (by simp) _)
  have HY2 := hid Y2; have HX0 := hid X0
  obtain ⟨k0, k1, k2, k3, k4, k5⟩ := K W (Below.refl _ _)
  clear K0
  clear Y0 Y1 Y2 X0 hW
  have XN1 := hid (HN1.out.call HX0.out); have XD1 := hid (HD1.out.call HX0.out); have XN2 := hid (HN2.out.call HX0.out); have XD2 := hid (HD2.out.call HX0.out)
  go_region_held3 (fun w' => w'.cell? ⟨w.heap.size, 0, none⟩ = some (.bool m1) ∧ w'.cell? ⟨w.heap.size, 1, none⟩ = some (.slice a1 (limbs n1).length c1) ∧ w'.cell? ⟨w.heap.size, 2, none⟩ = some (.slice a2 (limbs d1).length c2) ∧
      w'.cell? ⟨w.heap.size + 1, 0, none⟩ = some (.bool m2) ∧ w'.cell? ⟨w.heap.size + 1, 1, none⟩ = some (.slice a3 (limbs n2).length c3) ∧ w'.cell? ⟨w.heap.size + 1, 2, none⟩ = some (.slice a4 (limbs d2).length c4))
    (first
      | exact K.out _ (Below.refl _ _).drew
      | exact K2.out _ _ _ _ B3.out _ rfl
      | exact K.out _ B3.out
      | exact K.out _ B2.out
      | exact K.out _ B1.out)
    (first
      | (go_at_call_of 54 (Value.slice a1 (limbs n1).length c1); refine (r1_Times _ _ _ n1 n2 (XN1.out.call (by first | exact B2.out | exact (Below.refl _ _).drew)) (XN2.out.call (by first | exact B2.out | exact (Below.refl _ _).drew)) H1.out H3.out).mono ?_; rintro e w1 ⟨⟨v1, rfl, hv1⟩, hb1⟩; have B1 := hid (bnext (by first | exact B2.out | exact (Below.refl _ _).drew) hb1))
      | (go_at_call_of 54 (Value.slice a2 (limbs d1).length c2); refine (r1_Times _ _ _ d1 d2 (XD1.out.call (by first | exact B1.out | exact (Below.refl _ _).drew)) (XD2.out.call (by first | exact B1.out | exact (Below.refl _ _).drew)) H2.out H4.out).mono ?_; rintro e w2 ⟨⟨v2, rfl, hv2⟩, hb2⟩; have B2 := hid (bnext (by first | exact B1.out | exact (Below.refl _ _).drew) hb2))
      | (go_at_call 113; refine (r2_Reduce _ _ _ _ (n1 * n2) (d1 * d2) (by first | exact hv1 | exact hv1.call hb2) (by first | exact hv2 | exact hv2.call hb1) hD.out L1.out L2.out).mono ?_; rintro e w3 ⟨⟨v3, rfl, hv3⟩, hb3⟩; obtain ⟨N3, D3, rfl, hN3, hD3⟩ := hv3.ex; have B3 := hid (bnext (by first | exact B2.out | exact B1.out) hb3); obtain ⟨a5, c5, rfl, _⟩ := hN3.openI; obtain ⟨a6, c6, rfl, _⟩ := hD3.openI; have HN3 := hid hN3; have HD3 := hid hD3; have Z := hid (HY2.out.call B3.out); have t0 := Z.out.cell 0; have t1 := Z.out.cell 1; have t2 := Z.out.cell 2; have t3 := Z.out.free 0; have t4 := Z.out.free 1; have t5 := Z.out.free 2; clear hv3 hN3 hD3))
  have hbn : (!(m1 == m2)) = (m1 != m2) := rfl
  rw [hbn] at *
  go_wp2_with fail
  obtain ⟨s1, s2⟩ := set3 Z.out (decide ((qmk (m1 != m2) (n1 * n2) (d1 * d2)).num < 0)) a5 a6 (limbs (qmk (m1 != m2) (n1 * n2) (d1 * d2)).num.natAbs).length c5 (limbs (qmk (m1 != m2) (n1 * n2) (d1 * d2)).den).length c6
  have f0 := s2.cell 0
  have f1 := s2.cell 1
  have f2 := s2.cell 2
  simp at f0 f1 f2
  refine bodyPost_ret (v := .agg #[.bool (decide ((qmk (m1 != m2) (n1 * n2) (d1 * d2)).num < 0)), .slice a5 (limbs (qmk (m1 != m2) (n1 * n2) (d1 * d2)).num.natAbs).length c5, .slice a6 (limbs (qmk (m1 != m2) (n1 * n2) (d1 * d2)).den).length c6]) (by simp [results, Tryz.results71, go_sem, f0, f1, f2]) rfl ⟨⟨_, rfl, ⟨_, _, rfl, s1 _ _ _ HN3.out, s1 _ _ _ HD3.out⟩⟩, ?_⟩
  exact (((HX0.out.trans (B3.out.mono (Nat.le_trans (Nat.le_refl _) HX0.out.size))).setCell (by simp; omega) _).setCell (by simp; omega) _).setCell (by simp; omega) _
end Go.Proofs.YtjgcjjbnnlnilaaGreatDoor

/- Walks: the reference's two, Add, Mul. -/
namespace Go.Proofs.YtjgcjjbnnlnilaaGreatDoor
open Go.RowKit
open Go.Lib (decDigits nDigits)
set_option linter.unusedVariables false
set_option linter.unusedSimpArgs false

/-- The shape of a struct that holds a rational number, or nothing. -/
def Qv (v : Value) : Prop := ∃ (m : Bool) (a : Option Addr) (n c : Nat) (a' : Option Addr) (n' c' : Nat), v = .agg #[.bool m, .slice a n c, .slice a' n' c']

theorem IsQ.qv {k : IntKind} {w : World} {v : Value} {q : Rat} (h : IsQ k w v q) : Qv v := by
  obtain ⟨N, D, rfl, h1, h2⟩ := h.ex
  obtain ⟨a1, c1, rfl, _⟩ := h1.openI
  obtain ⟨a2, c2, rfl, _⟩ := h2.openI
  exact ⟨_, _, _, _, _, _, _, rfl⟩
theorem RetQE.open {s : ByteArray} {e : Ending} {w' : World} (h : RetQE s e w') : ∃ (m : Bool) (a : Option Addr) (n c : Nat) (a' : Option Addr) (n' c' : Nat), e = .returned (.tuple #[.agg #[.bool m, .slice a n c, .slice a' n' c'], .int .i64 (qE s)]) ∧ (qE s = 0 → IsQ .i64 w' (.agg #[.bool m, .slice a n c, .slice a' n' c']) (vQ s)) ∧ (qE s ≠ 0 → m = false ∧ a = none ∧ n = 0 ∧ c = 0 ∧ a' = none ∧ n' = 0 ∧ c' = 0) := by
  obtain ⟨v, rfl, h1, h2⟩ := h
  by_cases h0 : qE s = 0
  · obtain ⟨m, a, n, c, a', n', c', rfl⟩ := (h1 h0).qv
    exact ⟨m, a, n, c, a', n', c', rfl, h1, fun h => absurd h0 h⟩
  · obtain rfl := h2 h0
    exact ⟨_, _, _, _, _, _, _, rfl, h1, fun _ => ⟨rfl, rfl, rfl, rfl, rfl, rfl, rfl⟩⟩

theorem IsQ.keep {k : IntKind} {w w' : World} {v : Value} {q : Rat} (h : IsQ k w v q) (f : ∀ k v x, IsN k w v x → IsN k w' v x) : IsQ k w' v q := by
  obtain ⟨N, D, rfl, h1, h2⟩ := h.ex
  exact ⟨N, D, rfl, f _ _ _ h1, f _ _ _ h2⟩
theorem IsN.drew {k : IntKind} {w : World} {v : Value} {n : Nat} (h : IsN k w v n) : IsN k w.drew v n := Row.drew h

/-- What two gives back. -/
def RetTwo (s t : ByteArray) (e : Ending) (w' : World) : Prop := ∃ (m : Bool) (a : Option Addr) (n c : Nat) (a' : Option Addr) (n' c' : Nat) (m2 : Bool) (b : Option Addr) (j d : Nat) (b' : Option Addr) (j' d' : Nat),
  e = .returned (.tuple #[.agg #[.bool m, .slice a n c, .slice a' n' c'], .agg #[.bool m2, .slice b j d, .slice b' j' d'], .int .i64 (if qE s = 0 then qE t else qE s)]) ∧
  (qE s = 0 → qE t = 0 → IsQ .i64 w' (.agg #[.bool m, .slice a n c, .slice a' n' c']) (vQ s) ∧ IsQ .i64 w' (.agg #[.bool m2, .slice b j d, .slice b' j' d']) (vQ t))

set_option maxRecDepth 100000 in
set_option maxHeartbeats 1000000 in
theorem r2_two (w : World) (s t : ByteArray) (hs : s.size ≤ 1000000) (ht : t.size ≤ 1000000) :
    Calls Tryz.prog 70 #[.string s, .string t] w fun e w' => RetTwo s t e w' ∧ Below w.heap.size w w' := by
  have R1 := fun V => hid (r2_Read V s hs)
  have R2 := fun V => hid (r2_Read V t ht)
  have t0 := hid (Blk.new w #[.bool false, .slice none 0 0, .slice none 0 0] 89)
  have t1 := hid ((Below.refl w.heap.size w).alloc (Nat.le_refl _) (.cells #[.bool false, .slice none 0 0, .slice none 0 0] 89))
  have u0 := hid ((Blk.new w #[.bool false, .slice none 0 0, .slice none 0 0] 89).alloc (.cells #[.bool false, .slice none 0 0, .slice none 0 0] 89))
  have u1 := hid (Blk.made (w.alloc (.cells #[.bool false, .slice none 0 0, .slice none 0 0] 89)) #[.bool false, .slice none 0 0, .slice none 0 0] 89 (n := w.heap.size + 1) (by simp))
  have u2 := hid (t1.out.alloc (by simp) (.cells #[.bool false, .slice none 0 0, .slice none 0 0] 89))
  clear hs ht t0 t1
  go_enter Tryz.func70, Tryz.ntmps70
  go_wp2_with fail
  refine (R1 _).out.mono ?_; rintro e w1 ⟨hr1, hb1⟩
  obtain ⟨m, a, n, c, a', n', c', rfl, h1, h2⟩ := hr1.open
  have v0 := hid (u0.out.call hb1); have v1 := hid (u1.out.call hb1); have v2 := hid (bnext u2.out hb1)
  have l1 := v1.out.lt
  have n1 : (w1.heap.size = w.heap.size) = False := by simp; omega
  have n2 : (w.heap.size = w1.heap.size) = False := by simp; omega
  have n3 : (w1.heap.size = w.heap.size + 1) = False := by simp; omega
  have n4 : (w.heap.size + 1 = w1.heap.size) = False := by simp; omega
  obtain ⟨x, hx⟩ : ∃ x, qE s = x := ⟨_, rfl⟩
  have HXX := hid hx
  by_cases h0 : x = 0
  · subst h0
    rw [hx]
    have Q1 := hid (h1 hx)
    clear h1 h2 hr1 hb1 R1 hx
    have X7 := hid (Blk.new w1 #[.bool m, .slice a n c, .slice a' n' c'] 89)
    have b7 := hid ((Below.refl w1.heap.size w1).alloc (Nat.le_refl _) (.cells #[.bool m, .slice a n c, .slice a' n' c'] 89))
    have x0 := hid (v0.out.call b7.out); have x1 := hid (v1.out.call b7.out); have x2 := hid (bnext v2.out b7.out); have Q2 := hid (Q1.out.call b7.out)
    clear v0 v1 v2 Q1 b7
    go_wp2_with fail
    refine (R2 _).out.mono ?_; rintro e w2 ⟨hr2, hb2⟩
    obtain ⟨m2, b, j, d, b', j', d', rfl, k1, k2⟩ := hr2.open
    have y0 := hid (x0.out.call hb2); have y1 := hid (x1.out.call hb2); have y2 := hid (bnext x2.out hb2); have y7 := hid (X7.out.call hb2); have Q3 := hid (Q2.out.call hb2)
    have K1 := hid k1
    clear x0 x1 x2 X7 Q2 hb2 hr2 k1 k2 R2
    have l2 := y7.out.lt
    have n5 : (w2.heap.size = w.heap.size) = False := by simp; omega
    have n6 : (w.heap.size = w2.heap.size) = False := by simp; omega
    have n7 : (w2.heap.size = w.heap.size + 1) = False := by simp; omega
    have n8 : (w.heap.size + 1 = w2.heap.size) = False := by simp; omega
    clear l1 l2
    obtain ⟨z, hz⟩ : ∃ z, qE t = z := ⟨_, rfl⟩
    have HZ := hid hz
    rw [hz]
    clear hz
    have X9 := hid (Blk.new w2 #[.bool m2, .slice b j d, .slice b' j' d'] 89)
    have b9 := hid ((Below.refl w2.heap.size w2).alloc (Nat.le_refl _) (.cells #[.bool m2, .slice b j d, .slice b' j' d'] 89))
    have z0 := hid (y0.out.call b9.out); have z1 := hid (y1.out.call b9.out); have z2 := hid (bnext y2.out b9.out); have z7 := hid (y7.out.call b9.out); have Q4 := hid (Q3.out.call b9.out)
    have K2 := fun h => hid ((K1.out h).call b9.out)
    clear y0 y1 y2 y7 Q3 b9 K1
    have HH1 := z0.out.cell 0
    have HH2 := z0.out.cell 1
    have HH3 := z0.out.cell 2
    have HH4 := z0.out.free 0
    have HH5 := z0.out.free 1
    have HH6 := z0.out.free 2
    have KK1 := z1.out.cell 0
    have KK2 := z1.out.cell 1
    have KK3 := z1.out.cell 2
    have KK4 := z1.out.free 0
    have KK5 := z1.out.free 1
    have KK6 := z1.out.free 2
    have JJ1 := z7.out.cell 0
    have JJ2 := z7.out.cell 1
    have JJ3 := z7.out.cell 2
    simp at HH1 HH2 HH3 KK1 KK2 KK3 JJ1 JJ2 JJ3

    have II1 := X9.out.cell 0
    have II2 := X9.out.cell 1
    have II3 := X9.out.cell 2
    simp at II1 II2 II3
    go_wp2_with fail
    go_region
    obtain ⟨p1, p2⟩ := set3 z0.out m a a' n c n' c'
    have r1 := ((z1.out.other (a := ⟨w.heap.size, 0, none⟩) (by simp) (.bool m)).other (a := ⟨w.heap.size, 1, none⟩) (by simp) (.slice a n c)).other (a := ⟨w.heap.size, 2, none⟩) (by simp) (.slice a' n' c')
    obtain ⟨p3, p4⟩ := set3 r1 m2 b b' j d j' d'
    have p5 := ((p2.other (a := ⟨w.heap.size + 1, 0, none⟩) (by simp) (.bool m2)).other (a := ⟨w.heap.size + 1, 1, none⟩) (by simp) (.slice b j d)).other (a := ⟨w.heap.size + 1, 2, none⟩) (by simp) (.slice b' j' d')
    have f0 := p5.drew.cell 0
    have f1 := p5.drew.cell 1
    have f2 := p5.drew.cell 2
    have g0 := p4.drew.cell 0
    have g1 := p4.drew.cell 1
    have g2 := p4.drew.cell 2
    simp at f0 f1 f2 g0 g1 g2
    go_wp2_with fail
    refine bodyPost_ret (v := .tuple #[.agg #[.bool m, .slice a n c, .slice a' n' c'], .agg #[.bool m2, .slice b j d, .slice b' j' d'], .int .i64 z]) (by simp [results, Tryz.results70, go_sem, f0, f1, f2, g0, g1, g2]) rfl ⟨⟨m, a, n, c, a', n', c', m2, b, j, d, b', j', d', by rw [if_pos HXX.out, HZ.out], fun h1 h2 => ⟨(Q4.out.keep fun k v x h => (p3 _ _ _ (p1 _ _ _ h)).drew), ((K2 h2).out.keep fun k v x h => (p3 _ _ _ (p1 _ _ _ h)).drew)⟩⟩, ?_⟩
    exact ((((((z2.out.setCell (Nat.le_refl _) _).setCell (Nat.le_refl _) _).setCell (Nat.le_refl _) _).setCell (Nat.le_succ _) _).setCell (Nat.le_succ _) _).setCell (Nat.le_succ _) _).drew
  · rw [hx]
    have q0 : (x != 0) = true := by simpa using h0
    obtain ⟨rfl, rfl, rfl, rfl, rfl, rfl, rfl⟩ := h2 (by rw [hx]; exact h0)
    have H0 := hid h0
    clear h1 h2 hr1 hb1 R1 R2 hx h0
    have X7 := hid (Blk.new w1 #[.bool false, .slice none 0 0, .slice none 0 0] 89)
    have b7 := hid ((Below.refl w1.heap.size w1).alloc (Nat.le_refl _) (.cells #[.bool false, .slice none 0 0, .slice none 0 0] 89))
    have x0 := hid (v0.out.call b7.out); have x1 := hid (v1.out.call b7.out); have x2 := hid (bnext v2.out b7.out)
    clear v0 v1 v2 b7
    have HH1 := x0.out.cell 0
    have HH2 := x0.out.cell 1
    have HH3 := x0.out.cell 2
    have HH4 := x0.out.free 0
    have HH5 := x0.out.free 1
    have HH6 := x0.out.free 2
    have KK1 := x1.out.cell 0
    have KK2 := x1.out.cell 1
    have KK3 := x1.out.cell 2
    have KK4 := x1.out.free 0
    have KK5 := x1.out.free 1
    have KK6 := x1.out.free 2
    have JJ1 := X7.out.cell 0
    have JJ2 := X7.out.cell 1
    have JJ3 := X7.out.cell 2
    simp at HH1 HH2 HH3 KK1 KK2 KK3 JJ1 JJ2 JJ3

    go_wp2_with fail
    go_region
    obtain ⟨p1, p2⟩ := set3 x0.out false none none 0 0 0 0
    have r1 := ((x1.out.other (a := ⟨w.heap.size, 0, none⟩) (by simp) (.bool false)).other (a := ⟨w.heap.size, 1, none⟩) (by simp) (.slice none 0 0)).other (a := ⟨w.heap.size, 2, none⟩) (by simp) (.slice none 0 0)
    obtain ⟨p3, p4⟩ := set3 r1 false none none 0 0 0 0
    have p5 := ((p2.other (a := ⟨w.heap.size + 1, 0, none⟩) (by simp) (.bool false)).other (a := ⟨w.heap.size + 1, 1, none⟩) (by simp) (.slice none 0 0)).other (a := ⟨w.heap.size + 1, 2, none⟩) (by simp) (.slice none 0 0)
    have f0 := p5.drew.cell 0
    have f1 := p5.drew.cell 1
    have f2 := p5.drew.cell 2
    have g0 := p4.drew.cell 0
    have g1 := p4.drew.cell 1
    have g2 := p4.drew.cell 2
    simp at f0 f1 f2 g0 g1 g2
    go_wp2_with fail
    refine bodyPost_ret (v := .tuple #[.agg #[.bool false, .slice none 0 0, .slice none 0 0], .agg #[.bool false, .slice none 0 0, .slice none 0 0], .int .i64 x]) (by simp [results, Tryz.results70, go_sem, f0, f1, f2, g0, g1, g2]) rfl ⟨⟨false, none, 0, 0, none, 0, 0, false, none, 0, 0, none, 0, 0, by rw [if_neg (by rw [HXX.out]; exact H0.out), HXX.out], fun h1 => absurd (HXX.out.symm.trans h1) H0.out⟩, ?_⟩
    exact ((((((x2.out.setCell (Nat.le_refl _) _).setCell (Nat.le_refl _) _).setCell (Nat.le_refl _) _).setCell (Nat.le_succ _) _).setCell (Nat.le_succ _) _).setCell (Nat.le_succ _) _).drew

theorem dig_of {q : Rat} {K : Nat} (h1 : nDigits q.num.natAbs ≤ K) (h2 : nDigits q.den ≤ K) : Dig K q :=
  ⟨Nat.lt_of_lt_of_le (Go.Lib.lt_pow_nDigits _) (Nat.pow_le_pow_right (by omega) h1), Nat.lt_of_lt_of_le (Go.Lib.lt_pow_nDigits _) (Nat.pow_le_pow_right (by omega) h2)⟩
theorem dig_of_fits {q : Rat} (h : ¬ ovQ q) : Dig 4000 q := by
  unfold ovQ at h
  exact dig_of (by omega) (by omega)
theorem Dig.limbs {K L : Nat} {q : Rat} (h : Dig K q) (h0 : 0 < K) (hl : K ≤ 9 * L) : (limbs q.num.natAbs).length ≤ L ∧ (limbs q.den).length ≤ L :=
  ⟨limbs_digits (Nat.le_trans (nDigits_le h0 h.n) hl), limbs_digits (Nat.le_trans (nDigits_le h0 h.d) hl)⟩

/-- A walk of two texts and an operation. -/
def OpOk (F : Nat) (f : Rat → Rat → Rat) : Prop := ∀ (w : World) (v u : Value) (p q : Rat), IsQ .i64 w v p → IsQ .i64 w u q → Dig 4000 p → Dig 4000 q →
  Calls Tryz.prog F #[v, u] w fun e w' => RetQ .i64 (f p q) e w' ∧ Below w.heap.size w w'
theorem op_plus : OpOk 72 (· + ·) := fun w v u p q hp hq h1 h2 => by
  have l1 := h1.limbs (L := 100000) (by omega) (by omega)
  have l2 := h2.limbs (L := 100000) (by omega) (by omega)
  exact r2_Plus w v u p q hp hq l1.1 l1.2 l2.1 l2.2
theorem op_times : OpOk 71 (· * ·) := fun w v u p q hp hq h1 h2 => by
  have l1 := h1.limbs (L := 100000) (by omega) (by omega)
  have l2 := h2.limbs (L := 100000) (by omega) (by omega)
  exact r2_Times w v u p q hp hq l1.1 l1.2 l2.1 l2.2

set_option maxRecDepth 100000 in
set_option maxHeartbeats 1000000 in
theorem r2_Add (w : World) (s t : ByteArray) (hs : s.size ≤ 1000000) (ht : t.size ≤ 1000000) :
    Calls Tryz.prog 29 #[.string s, .string t] w fun e w' => e = .returned (.tuple #[.string (op2B (· + ·) s t), .int .i64 (op2E (· + ·) s t)]) ∧ Below w.heap.size w w' := by
  have R1 := fun V => hid (r2_two V s t hs ht)
  clear hs ht
  by_cases h0 : qE s = 0 ∧ qE t = 0
  · have eB : op2B (· + ·) s t = outB (vQ s + vQ t) := by rw [op2B, if_pos h0]
    have eE : op2E (· + ·) s t = outE (vQ s + vQ t) := by rw [op2E, if_pos h0.1, if_pos h0.2]
    rw [eB, eE]
    have ds := dig_of_fits (vQ_fits h0.1)
    have dt := dig_of_fits (vQ_fits h0.2)
    have dl := hid ((dig_add ds dt).limbs (L := 1000000) (by omega) (by omega))
    have HO := fun V v u hp hq => hid (op_plus V v u (vQ s) (vQ t) hp hq ds dt)
    have HW := fun V v h => hid (r2_Write V v (vQ s + vQ t) h dl.out.1 dl.out.2)
    obtain ⟨oB, hB⟩ : ∃ x, outB (vQ s + vQ t) = x := ⟨_, rfl⟩
    obtain ⟨oE, hE⟩ : ∃ x, outE (vQ s + vQ t) = x := ⟨_, rfl⟩
    rw [hB, hE] at HW
    rw [hB, hE]
    have H0 := hid h0
    clear eB eE ds dt dl hB hE h0
    go_enter Tryz.func29, Tryz.ntmps29
    go_wp2_with fail
    refine (R1 _).out.mono ?_; rintro e w1 ⟨⟨m, a, n, c, a', n', c', m2, b, j, d, b', j', d', rfl, hq⟩, hb1⟩
    obtain ⟨q1, q2⟩ := hq H0.out.1 H0.out.2
    rw [if_pos H0.out.1, H0.out.2]
    have b0 := ((Below.refl w1.heap.size w1).alloc (Nat.le_refl _) (.cells #[.bool m, .slice a n c, .slice a' n' c'] 89)).alloc (by simp) (.cells #[.bool m2, .slice b j d, .slice b' j' d'] 89)
    have y2 := hid (bnext hb1 b0)
    have H1 := HO _ _ _ (q1.call b0) (q2.call b0)
    clear hb1 q1 q2 hq b0 HO R1
    go_wp2_with fail
    refine H1.out.mono ?_; rintro e w2 ⟨⟨v, rfl, hv⟩, hb2⟩
    have y3 := hid (bnext y2.out hb2)
    have H2 := HW _ _ hv
    obtain ⟨m3, a3, n3, c3, a4, n4, c4, rfl⟩ := hv.qv
    clear hv hb2 HW H1
    go_wp2_with fail
    refine H2.out.mono ?_; rintro e w3 ⟨rfl, hb3⟩
    have y4 := hid (bnext y3.out hb3)
    clear hb3 H2
    go_wp2_with fail
    go_ret2
    exact ⟨rfl, y4.out⟩
  · have n0 : (if qE s = 0 then qE t else qE s) ≠ 0 := by
      split
      · rename_i h; exact fun e => h0 ⟨h, e⟩
      · rename_i h; exact h
    have eB : op2B (· + ·) s t = ⟨#[]⟩ := by rw [op2B, if_neg h0]
    have eE : op2E (· + ·) s t = if qE s = 0 then qE t else qE s := by
      rw [op2E]
      split
      · rename_i h; rw [if_neg (fun e => h0 ⟨h, e⟩)]
      · rfl
    rw [eB, eE]
    obtain ⟨x, hx⟩ : ∃ x, (if qE s = 0 then qE t else qE s) = x := ⟨_, rfl⟩
    rw [hx] at n0 ⊢
    have q0 : (x != 0) = true := by simpa using n0
    have HX := hid hx
    clear h0 n0 eB eE hx
    go_enter Tryz.func29, Tryz.ntmps29
    go_wp2_with fail
    refine (R1 _).out.mono ?_; rintro e w1 ⟨⟨m, a, n, c, a', n', c', m2, b, j, d, b', j', d', rfl, -⟩, hb1⟩
    rw [HX.out]
    have y1 := hid hb1
    have y2 := hid ((hb1.alloc hb1.size (.cells #[.bool m, .slice a n c, .slice a' n' c'] 89)).alloc (Nat.le_trans hb1.size (by simp)) (.cells #[.bool m2, .slice b j d, .slice b' j' d'] 89))
    clear hb1
    go_wp2_with fail
    go_ret2
    exact ⟨rfl, y2.out⟩

set_option maxRecDepth 100000 in
set_option maxHeartbeats 1000000 in
theorem r2_Mul (w : World) (s t : ByteArray) (hs : s.size ≤ 1000000) (ht : t.size ≤ 1000000) :
    Calls Tryz.prog 24 #[.string s, .string t] w fun e w' => e = .returned (.tuple #[.string (op2B (· * ·) s t), .int .i64 (op2E (· * ·) s t)]) ∧ Below w.heap.size w w' := by
  have R1 := fun V => hid (r2_two V s t hs ht)
  clear hs ht
  by_cases h0 : qE s = 0 ∧ qE t = 0
  · have eB : op2B (· * ·) s t = outB (vQ s * vQ t) := by rw [op2B, if_pos h0]
    have eE : op2E (· * ·) s t = outE (vQ s * vQ t) := by rw [op2E, if_pos h0.1, if_pos h0.2]
    rw [eB, eE]
    have ds := dig_of_fits (vQ_fits h0.1)
    have dt := dig_of_fits (vQ_fits h0.2)
    have dl := hid ((dig_mul ds dt).limbs (L := 1000000) (by omega) (by omega))
    have HO := fun V v u hp hq => hid (op_times V v u (vQ s) (vQ t) hp hq ds dt)
    have HW := fun V v h => hid (r2_Write V v (vQ s * vQ t) h dl.out.1 dl.out.2)
    obtain ⟨oB, hB⟩ : ∃ x, outB (vQ s * vQ t) = x := ⟨_, rfl⟩
    obtain ⟨oE, hE⟩ : ∃ x, outE (vQ s * vQ t) = x := ⟨_, rfl⟩
    rw [hB, hE] at HW
    rw [hB, hE]
    have H0 := hid h0
    clear eB eE ds dt dl hB hE h0
    go_enter Tryz.func24, Tryz.ntmps24
    go_wp2_with fail
    refine (R1 _).out.mono ?_; rintro e w1 ⟨⟨m, a, n, c, a', n', c', m2, b, j, d, b', j', d', rfl, hq⟩, hb1⟩
    obtain ⟨q1, q2⟩ := hq H0.out.1 H0.out.2
    rw [if_pos H0.out.1, H0.out.2]
    have b0 := ((Below.refl w1.heap.size w1).alloc (Nat.le_refl _) (.cells #[.bool m, .slice a n c, .slice a' n' c'] 89)).alloc (by simp) (.cells #[.bool m2, .slice b j d, .slice b' j' d'] 89)
    have y2 := hid (bnext hb1 b0)
    have H1 := HO _ _ _ (q1.call b0) (q2.call b0)
    clear hb1 q1 q2 hq b0 HO R1
    go_wp2_with fail
    refine H1.out.mono ?_; rintro e w2 ⟨⟨v, rfl, hv⟩, hb2⟩
    have y3 := hid (bnext y2.out hb2)
    have H2 := HW _ _ hv
    obtain ⟨m3, a3, n3, c3, a4, n4, c4, rfl⟩ := hv.qv
    clear hv hb2 HW H1
    go_wp2_with fail
    refine H2.out.mono ?_; rintro e w3 ⟨rfl, hb3⟩
    have y4 := hid (bnext y3.out hb3)
    clear hb3 H2
    go_wp2_with fail
    go_ret2
    exact ⟨rfl, y4.out⟩
  · have n0 : (if qE s = 0 then qE t else qE s) ≠ 0 := by
      split
      · rename_i h; exact fun e => h0 ⟨h, e⟩
      · rename_i h; exact h
    have eB : op2B (· * ·) s t = ⟨#[]⟩ := by rw [op2B, if_neg h0]
    have eE : op2E (· * ·) s t = if qE s = 0 then qE t else qE s := by
      rw [op2E]
      split
      · rename_i h; rw [if_neg (fun e => h0 ⟨h, e⟩)]
      · rfl
    rw [eB, eE]
    obtain ⟨x, hx⟩ : ∃ x, (if qE s = 0 then qE t else qE s) = x := ⟨_, rfl⟩
    rw [hx] at n0 ⊢
    have q0 : (x != 0) = true := by simpa using n0
    have HX := hid hx
    clear h0 n0 eB eE hx
    go_enter Tryz.func24, Tryz.ntmps24
    go_wp2_with fail
    refine (R1 _).out.mono ?_; rintro e w1 ⟨⟨m, a, n, c, a', n', c', m2, b, j, d, b', j', d', rfl, -⟩, hb1⟩
    rw [HX.out]
    have y1 := hid hb1
    have y2 := hid ((hb1.alloc hb1.size (.cells #[.bool m, .slice a n c, .slice a' n' c'] 89)).alloc (Nat.le_trans hb1.size (by simp)) (.cells #[.bool m2, .slice b j d, .slice b' j' d'] 89))
    clear hb1
    go_wp2_with fail
    go_ret2
    exact ⟨rfl, y2.out⟩
end Go.Proofs.YtjgcjjbnnlnilaaGreatDoor

/- Walks: the reference's Sub, Sign, Order, Cmp. -/
namespace Go.Proofs.YtjgcjjbnnlnilaaGreatDoor
open Go.RowKit
open Go.Lib (decDigits nDigits)
set_option linter.unusedVariables false
set_option linter.unusedSimpArgs false

theorem op2_err {f : Rat → Rat → Rat} {s t : ByteArray} (h0 : ¬ (qE s = 0 ∧ qE t = 0)) : (if qE s = 0 then qE t else qE s) ≠ 0 ∧ op2B f s t = ⟨#[]⟩ ∧ op2E f s t = (if qE s = 0 then qE t else qE s) := by
  refine ⟨?_, by rw [op2B, if_neg h0], ?_⟩
  · split
    · rename_i h; exact fun e => h0 ⟨h, e⟩
    · rename_i h; exact h
  · rw [op2E]
    split
    · rename_i h; rw [if_neg (fun e => h0 ⟨h, e⟩)]
    · rfl

set_option maxRecDepth 100000 in
set_option maxHeartbeats 1000000 in
theorem r2_Sub (w : World) (s t : ByteArray) (hs : s.size ≤ 1000000) (ht : t.size ≤ 1000000) :
    Calls Tryz.prog 26 #[.string s, .string t] w fun e w' => e = .returned (.tuple #[.string (op2B (· - ·) s t), .int .i64 (op2E (· - ·) s t)]) ∧ Below w.heap.size w w' := by
  have R1 := fun V => hid (r2_two V s t hs ht)
  clear hs ht
  by_cases h0 : qE s = 0 ∧ qE t = 0
  · have eB : op2B (· - ·) s t = outB (vQ s + -vQ t) := by rw [op2B, if_pos h0, Rat.sub_eq_add_neg]
    have eE : op2E (· - ·) s t = outE (vQ s + -vQ t) := by rw [op2E, if_pos h0.1, if_pos h0.2, Rat.sub_eq_add_neg]
    rw [eB, eE]
    have ds := dig_of_fits (vQ_fits h0.1)
    have dt := dig_neg (dig_of_fits (vQ_fits h0.2))
    have dl := hid ((dig_add ds dt).limbs (L := 1000000) (by omega) (by omega))
    have HO := fun V v u hp hq => hid (op_plus V v u (vQ s) (-vQ t) hp hq ds dt)
    have HG := fun V v h => hid (r2_Negative V v (vQ t) h)
    have HW := fun V v h => hid (r2_Write V v (vQ s + -vQ t) h dl.out.1 dl.out.2)
    obtain ⟨oB, hB⟩ : ∃ x, outB (vQ s + -vQ t) = x := ⟨_, rfl⟩
    obtain ⟨oE, hE⟩ : ∃ x, outE (vQ s + -vQ t) = x := ⟨_, rfl⟩
    rw [hB, hE] at HW
    rw [hB, hE]
    have H0 := hid h0
    clear eB eE ds dt dl hB hE h0
    go_enter Tryz.func26, Tryz.ntmps26
    go_wp2_with fail
    refine (R1 _).out.mono ?_; rintro e w1 ⟨⟨m, a, n, c, a', n', c', m2, b, j, d, b', j', d', rfl, hq⟩, hb1⟩
    obtain ⟨q1, q2⟩ := hq H0.out.1 H0.out.2
    rw [if_pos H0.out.1, H0.out.2]
    have b0 := hid (((Below.refl w1.heap.size w1).alloc (Nat.le_refl _) (.cells #[.bool m, .slice a n c, .slice a' n' c'] 89)).alloc (by simp) (.cells #[.bool m2, .slice b j d, .slice b' j' d'] 89))
    have Y0 := hid ((Blk.new w1 #[.bool m, .slice a n c, .slice a' n' c'] 89).alloc (.cells #[.bool m2, .slice b j d, .slice b' j' d'] 89))
    have Y1 := hid (Blk.made (w1.alloc (.cells #[.bool m, .slice a n c, .slice a' n' c'] 89)) #[.bool m2, .slice b j d, .slice b' j' d'] 89 (n := w1.heap.size + 1) (by simp))
    have y2 := hid (bnext hb1 b0.out)
    have Q1 := hid (q1.call b0.out); have Q2 := hid (q2.call b0.out)
    clear hb1 q1 q2 hq R1
    go_wp2_with fail
    obtain ⟨W, hW⟩ : ∃ W, (w1.alloc (.cells #[.bool m, .slice a n c, .slice a' n' c'] 89)).alloc (.cells #[.bool m2, .slice b j d, .slice b' j' d'] 89) = W := ⟨_, rfl⟩
    rw [hW] at Y0 Y1 y2 Q1 Q2 ⊢
    have KK : Hid (∀ w', Below W.heap.size W w' → w'.cell? ⟨w1.heap.size, 0, none⟩ = some (.bool m) ∧ w'.cell? ⟨w1.heap.size, 1, none⟩ = some (.slice a n c) ∧ w'.cell? ⟨w1.heap.size, 2, none⟩ = some (.slice a' n' c') ∧ w'.cell? ⟨w1.heap.size + 1, 0, none⟩ = some (.bool m2) ∧ w'.cell? ⟨w1.heap.size + 1, 1, none⟩ = some (.slice b j d) ∧ w'.cell? ⟨w1.heap.size + 1, 2, none⟩ = some (.slice b' j' d')) := fun w' hb =>
      ⟨(Y0.out.call hb).cell 0, (Y0.out.call hb).cell 1, (Y0.out.call hb).cell 2, (Y1.out.call hb).cell 0, (Y1.out.call hb).cell 1, (Y1.out.call hb).cell 2⟩
    clear b0 hW
    refine held_plain [0, 1] 7 (fun w' => w'.cell? ⟨w1.heap.size, 0, none⟩ = some (.bool m) ∧ w'.cell? ⟨w1.heap.size, 1, none⟩ = some (.slice a n c) ∧ w'.cell? ⟨w1.heap.size, 2, none⟩ = some (.slice a' n' c') ∧ w'.cell? ⟨w1.heap.size + 1, 0, none⟩ = some (.bool m2) ∧ w'.cell? ⟨w1.heap.size + 1, 1, none⟩ = some (.slice b j d) ∧ w'.cell? ⟨w1.heap.size + 1, 2, none⟩ = some (.slice b' j' d')) (by kernel_rfl) (by kernel_rfl) (by kernel_rfl) (by kernel_rfl) (KK.out _ (Below.refl _ _).drew) ?_
    iterate 2
      refine ⟨_, rfl, ?_⟩
      apply Exists.intro
      refine ⟨.inl ⟨by rfl, ?_⟩, ?_⟩
      · (intro W' hW'; obtain ⟨q1, q2, q3, q4, q5, q6⟩ := hW'; go_simp; try (with_reducible rfl))
      (dsimp only [Act.put]; try simp only [List.setIfInBounds_toArray, List.set_cons_zero, List.set_cons_succ])
    refine held_one (i := 2) (by kernel_rfl) (by rfl) (by rfl) ?_
    go_wp2_with fail
    refine (HG _ _ (Q2.out.call (Below.refl _ _).drew)).out.mono ?_; rintro e w3 ⟨⟨v3, rfl, hv3⟩, hb3⟩
    have x3 := hid (show Below W.heap.size W w3 from (Below.refl _ _).drew.trans hb3)
    have N3 := hid hv3
    obtain ⟨m5, a5, n5, c5, a6, n6, c6, rfl⟩ := hv3.qv
    clear hb3 hv3
    go_wp2_with fail
    refine ⟨KK.out _ x3.out, ?_⟩
    refine held_one (i := 3) (by kernel_rfl) (by rfl) (by rfl) ?_
    go_wp2_with fail
    refine (HO _ _ _ (Q1.out.call x3.out) N3.out).out.mono ?_; rintro e w4 ⟨⟨v4, rfl, hv4⟩, hb4⟩
    have x4 := hid (bnext x3.out hb4)
    have N4 := hid hv4
    obtain ⟨m7, a7, n7, c7, a8, n8, c8, rfl⟩ := hv4.qv
    clear hb4 hv4
    go_wp2_with fail
    refine ⟨KK.out _ x4.out, ?_⟩
    refine held_one (i := 4) (by kernel_rfl) (by rfl) (by rfl) ?_
    go_wp2_with fail
    refine (HW _ _ N4.out).out.mono ?_; rintro e w5 ⟨rfl, hb5⟩
    have x5 := hid (bnext x4.out hb5)
    clear hb5
    go_wp2_with fail
    refine ⟨KK.out _ x5.out, ?_⟩
    refine held_more (is := [5, 6, 7, 8]) (g := 0) (by kernel_rfl) rfl (KK.out _ x5.out) (by kernel_rfl) ?_
    iterate 4
      refine ⟨_, rfl, ?_⟩
      apply Exists.intro
      refine ⟨.inl ⟨by rfl, ?_⟩, ?_⟩
      · (intro W' hW'; obtain ⟨q1, q2, q3, q4, q5, q6⟩ := hW'; go_simp; try (with_reducible rfl))
      (dsimp only [Act.put]; try simp only [List.setIfInBounds_toArray, List.set_cons_zero, List.set_cons_succ])
    refine wpAnyH_done (by kernel_rfl) ?_ _
    simp only [Only]
    go_wp2_with fail
    go_ret2
    exact ⟨rfl, bnext y2.out x5.out⟩
  · obtain ⟨n0, eB, eE⟩ := op2_err (f := (· - ·)) h0
    rw [eB, eE]
    obtain ⟨x, hx⟩ : ∃ x, (if qE s = 0 then qE t else qE s) = x := ⟨_, rfl⟩
    rw [hx] at n0 ⊢
    have q0 : (x != 0) = true := by simpa using n0
    have HX := hid hx
    clear h0 n0 eB eE hx
    go_enter Tryz.func26, Tryz.ntmps26
    go_wp2_with fail
    refine (R1 _).out.mono ?_; rintro e w1 ⟨⟨m, a, n, c, a', n', c', m2, b, j, d, b', j', d', rfl, -⟩, hb1⟩
    rw [HX.out]
    have y2 := hid ((hb1.alloc hb1.size (.cells #[.bool m, .slice a n c, .slice a' n' c'] 89)).alloc (Nat.le_trans hb1.size (by simp)) (.cells #[.bool m2, .slice b j d, .slice b' j' d'] 89))
    clear hb1
    go_wp2_with fail
    go_ret2
    exact ⟨rfl, y2.out⟩

/-- The sign of a number, of a difference. -/
def sgnQ (q : Rat) : Int := if q.num = 0 then 0 else if q.num < 0 then -1 else 1
def ordQ (p q : Rat) : Int := sgnQ (p - q)
def sgB (s : ByteArray) : Int := if qE s = 0 then sgnQ (vQ s) else 0
def cmB (s t : ByteArray) : Int := if qE s = 0 ∧ qE t = 0 then ordQ (vQ s) (vQ t) else 0
def cmE (s t : ByteArray) : Int := if qE s = 0 then qE t else qE s

theorem limbs_none {n : Nat} : (limbs n).length = 0 ↔ n = 0 := by
  constructor
  · intro h
    have h2 : limbs n = limbs 0 := by rw [List.eq_nil_of_length_eq_zero h, limbs_zero]
    exact limbs_inj h2
  · rintro rfl; rw [limbs_zero]; rfl

set_option maxRecDepth 100000 in
set_option maxHeartbeats 1000000 in
theorem r2_Sign (w : World) (s : ByteArray) (hs : s.size ≤ 1000000) :
    Calls Tryz.prog 27 #[.string s] w fun e w' => e = .returned (.tuple #[.int .i64 (sgB s), .int .i64 (qE s)]) ∧ Below w.heap.size w w' := by
  have R1 := fun V => hid (r2_Read V s hs)
  clear hs
  by_cases h0 : qE s = 0
  · rw [sgB, if_pos h0, h0]
    have H0 := hid h0
    by_cases h1 : (vQ s).num = 0
    · rw [sgnQ, if_pos h1]
      have H1 := hid h1
      clear h0 h1
      go_enter Tryz.func27, Tryz.ntmps27
      go_wp2_with fail
      refine (R1 _).out.mono ?_; rintro e w1 ⟨⟨v, rfl, hq, -⟩, hb1⟩
      obtain ⟨N, D, rfl, hn, hd⟩ := (hq H0.out).ex
      obtain ⟨a1, c1, rfl, -⟩ := hn.openI
      obtain ⟨a2, c2, rfl, -⟩ := hd.openI
      rw [H1.out, H0.out]
      have q1 : (limbs (Int.natAbs 0)).length = 0 := limbs_none.2 rfl
      rw [q1]
      generalize (limbs (vQ s).den).length = k2
      have y1 := hid hb1
      clear hb1 hq hn hd q1
      go_wp2_with fail
      go_ret2
      exact ⟨rfl, y1.out.alloc y1.out.size _⟩
    · have h2 : (limbs (vQ s).num.natAbs).length ≠ 0 := fun e => h1 (by have := limbs_none.1 e; omega)
      obtain ⟨k, hk⟩ : ∃ k, (limbs (vQ s).num.natAbs).length = k := ⟨_, rfl⟩
      obtain ⟨mm, hmm⟩ : ∃ m, decide ((vQ s).num < 0) = m := ⟨_, rfl⟩
      have es : sgnQ (vQ s) = if mm = true then -1 else 1 := by
        rw [sgnQ, if_neg h1, ← hmm]; simp
      rw [es]
      rw [hk] at h2
      have q1 : ((k : Int) == 0) = false := by simp; omega
      have HK := hid hk; have HMM := hid hmm
      clear h0 h1 h2 hk hmm es
      cases mm
      all_goals
        go_enter Tryz.func27, Tryz.ntmps27
        go_wp2_with fail
        refine (R1 _).out.mono ?_; rintro e w1 ⟨⟨v, rfl, hq, -⟩, hb1⟩
        obtain ⟨N, D, rfl, hn, hd⟩ := (hq H0.out).ex
        obtain ⟨a1, c1, rfl, -⟩ := hn.openI
        obtain ⟨a2, c2, rfl, -⟩ := hd.openI
        rw [HMM.out, HK.out, H0.out]
        generalize (limbs (vQ s).den).length = k2
        have y1 := hid hb1
        clear hb1 hq hn hd
        go_wp2_with fail
        go_ret2
        exact ⟨rfl, y1.out.alloc y1.out.size _⟩
  · rw [sgB, if_neg h0]
    obtain ⟨x, hx⟩ : ∃ x, qE s = x := ⟨_, rfl⟩
    have H0 := hid h0; have HX := hid hx
    rw [hx] at h0 ⊢
    have q0 : (x != 0) = true := by simpa using h0
    clear h0 hx
    go_enter Tryz.func27, Tryz.ntmps27
    go_wp2_with fail
    refine (R1 _).out.mono ?_; rintro e w1 ⟨⟨v, rfl, -, hq⟩, hb1⟩
    rw [hq H0.out, HX.out]
    have y1 := hid hb1
    clear hb1 hq
    go_wp2_with fail
    go_ret2
    exact ⟨rfl, y1.out.alloc y1.out.size _⟩
end Go.Proofs.YtjgcjjbnnlnilaaGreatDoor

/- Walks: the reference's Order, Cmp. -/
namespace Go.Proofs.YtjgcjjbnnlnilaaGreatDoor
open Go.RowKit
open Go.Lib (decDigits nDigits)
set_option linter.unusedVariables false
set_option linter.unusedSimpArgs false

set_option maxRecDepth 100000 in
set_option maxHeartbeats 2000000 in
theorem r2_Order (w : World) (v u : Value) (p q : Rat) (hp : IsQ .i64 w v p) (hq : IsQ .i64 w u q) (dp : Dig 4000 p) (dq : Dig 4000 q) :
    Calls Tryz.prog 74 #[v, u] w fun e w' => e = .returned (.int .i64 (ordQ p q)) ∧ Below w.heap.size w w' := by
  have HO := fun V v u hp hq => hid (op_plus V v u p (-q) hp hq dp (dig_neg dq))
  have HG := fun V v h => hid (r2_Negative V v q h)
  have HP := hid hp; have HQ := hid hq
  obtain ⟨m, a, n, c, a', n', c', rfl⟩ := hp.qv
  obtain ⟨m2, b, j, d, b', j', d', rfl⟩ := hq.qv
  rw [show ordQ p q = sgnQ (p + -q) by rw [ordQ, Rat.sub_eq_add_neg]]
  obtain ⟨z, hz⟩ : ∃ z, p + -q = z := ⟨_, rfl⟩
  simp only [hz] at HO
  rw [hz]
  clear hp hq dp dq hz
  go_enter Tryz.func74, Tryz.ntmps74
  go_upto_region 1 with fail
  obtain ⟨W, hW⟩ : ∃ W, (w.alloc (.cells #[.bool m, .slice a n c, .slice a' n' c'] 89)).alloc (.cells #[.bool m2, .slice b j d, .slice b' j' d'] 89) = W := ⟨_, rfl⟩
  have Y0 : Blk W w.heap.size #[.bool m, .slice a n c, .slice a' n' c'] 89 := by rw [← hW]; exact (Blk.new w _ _).alloc _
  have Y1 : Blk W (w.heap.size + 1) #[.bool m2, .slice b j d, .slice b' j' d'] 89 := by rw [← hW]; exact Blk.made _ _ _ (by simp)
  have y0 : Below w.heap.size w W := by rw [← hW]; exact ((Below.refl _ _).alloc (Nat.le_refl _) _).alloc (by simp) _
  rw [hW]
  have KK : Hid (∀ w', Below W.heap.size W w' → w'.cell? ⟨w.heap.size, 0, none⟩ = some (.bool m) ∧ w'.cell? ⟨w.heap.size, 1, none⟩ = some (.slice a n c) ∧ w'.cell? ⟨w.heap.size, 2, none⟩ = some (.slice a' n' c') ∧ w'.cell? ⟨w.heap.size + 1, 0, none⟩ = some (.bool m2) ∧ w'.cell? ⟨w.heap.size + 1, 1, none⟩ = some (.slice b j d) ∧ w'.cell? ⟨w.heap.size + 1, 2, none⟩ = some (.slice b' j' d')) := fun w' hb =>
    ⟨(Y0.call hb).cell 0, (Y0.call hb).cell 1, (Y0.call hb).cell 2, (Y1.call hb).cell 0, (Y1.call hb).cell 1, (Y1.call hb).cell 2⟩
  have Q1 := hid (HP.out.call y0); have Q2 := hid (HQ.out.call y0)
  have HY := hid y0
  clear Y0 Y1 y0 hW
  go_cut [5] (fun s5 wx => ∃ (g : Nat) (a5 : Option Addr) (n5 c5 : Nat) (a6 : Option Addr) (n6 c6 : Nat), s5 = .pointer (some ⟨g, 0, none⟩) ∧ Hid (Blk wx g #[.bool (decide (z.num < 0)), .slice a5 n5 c5, .slice a6 n6 c6] 89) ∧ Hid (n5 = (limbs z.num.natAbs).length) ∧ Hid (Below W.heap.size W wx))
  case first =>
    refine held_plain [0, 1] 4 (fun w' => w'.cell? ⟨w.heap.size, 0, none⟩ = some (.bool m) ∧ w'.cell? ⟨w.heap.size, 1, none⟩ = some (.slice a n c) ∧ w'.cell? ⟨w.heap.size, 2, none⟩ = some (.slice a' n' c') ∧ w'.cell? ⟨w.heap.size + 1, 0, none⟩ = some (.bool m2) ∧ w'.cell? ⟨w.heap.size + 1, 1, none⟩ = some (.slice b j d) ∧ w'.cell? ⟨w.heap.size + 1, 2, none⟩ = some (.slice b' j' d')) (by kernel_rfl) (by kernel_rfl) (by kernel_rfl) (by kernel_rfl) (KK.out _ (Below.refl _ _).drew) ?_
    iterate 2
      refine ⟨_, rfl, ?_⟩
      apply Exists.intro
      refine ⟨.inl ⟨by rfl, ?_⟩, ?_⟩
      · (intro W' hW'; obtain ⟨q1, q2, q3, q4, q5, q6⟩ := hW'; go_simp; try (with_reducible rfl))
      (dsimp only [Act.put]; try simp only [List.setIfInBounds_toArray, List.set_cons_zero, List.set_cons_succ])
    refine held_two (i := 2) (j := 4) (by kernel_rfl) (by rfl) (by rfl) (by rfl) (by rfl) ?_ ?_
    · go_wp2_with fail
      refine (HG _ _ (Q2.out.call (Below.refl _ _).drew)).out.mono ?_; rintro e w3 ⟨⟨v3, rfl, hv3⟩, hb3⟩
      have x3 := hid (show Below W.heap.size W w3 from (Below.refl _ _).drew.trans hb3)
      have N3 := hid hv3
      obtain ⟨m5, a5, n5, c5, a6, n6, c6, rfl⟩ := hv3.qv
      clear hb3 hv3
      go_wp2_with fail
      refine ⟨KK.out _ x3.out, ?_⟩
      refine held_two (i := 3) (j := 4) (by kernel_rfl) (by rfl) (by rfl) (by rfl) (by rfl) ?_ ?_
      · go_wp2_with fail
        refine (HO _ _ _ (Q1.out.call x3.out) N3.out).out.mono ?_; rintro e w4 ⟨⟨v4, rfl, hv4⟩, hb4⟩
        have x4 := hid (bnext x3.out hb4)
        obtain ⟨N, D, rfl, h1, h2⟩ := hv4.ex
        obtain ⟨a7, c7, rfl, -⟩ := h1.openI
        obtain ⟨a8, c8, rfl, -⟩ := h2.openI
        clear hb4 hv4 h1 h2
        go_wp2_with fail
        refine ⟨KK.out _ x4.out, ?_⟩
        refine held_one (i := 4) (by kernel_rfl) (by rfl) (by rfl) ?_
        go_wp2_with fail
        refine ⟨KK.out _ (x4.out.alloc x4.out.size _), ?_⟩
        refine held_one (i := 5) (by kernel_rfl) (by rfl) (by rfl) ?_
        go_wp2_with fail
        refine ⟨KK.out _ (x4.out.alloc x4.out.size _), ?_⟩
        refine wpAnyH_done (by kernel_rfl) ?_ _
        simp only [Only]
        go_wp2_with fail
        go_meet
        exact ⟨_, _, _, _, _, _, _, rfl, Blk.new w4 _ _, rfl, x4.out.alloc x4.out.size _⟩
      · go_wp2_with fail
        have A3 := hid (x3.out.alloc x3.out.size (.cells #[.bool false, .slice none 0 0, .slice none 0 0] 89))
        have b3 := hid (Blk.new w3 #[.bool false, .slice none 0 0, .slice none 0 0] 89)
        have n3 := hid (N3.out.call ((Below.refl _ _).alloc (Nat.le_refl _) (.cells #[.bool false, .slice none 0 0, .slice none 0 0] 89)))
        refine ⟨KK.out _ A3.out, ?_⟩
        refine held_one (i := 3) (by kernel_rfl) (by rfl) (by rfl) ?_
        go_wp2_with fail
        refine (HO _ _ _ (Q1.out.call A3.out) n3.out).out.mono ?_; rintro e w4 ⟨⟨v4, rfl, hv4⟩, hb4⟩
        have x4 := hid (bnext A3.out hb4)
        have b4 := hid (b3.out.call hb4)
        obtain ⟨N, D, rfl, h1, h2⟩ := hv4.ex
        obtain ⟨a7, c7, rfl, -⟩ := h1.openI
        obtain ⟨a8, c8, rfl, -⟩ := h2.openI
        have t0 := b4.out.cell 0
        have t1 := b4.out.cell 1
        have t2 := b4.out.cell 2
        have t3 := b4.out.free 0
        have t4 := b4.out.free 1
        have t5 := b4.out.free 2
        simp at t0 t1 t2
        have ge := hid (show W.heap.size ≤ w3.heap.size from x3.out.size)
        obtain ⟨k7, hk7⟩ : ∃ k, (limbs z.num.natAbs).length = k := ⟨_, rfl⟩
        obtain ⟨k8, hk8⟩ : ∃ k, (limbs z.den).length = k := ⟨_, rfl⟩
        obtain ⟨mz, hmz⟩ : ∃ m, decide (z.num < 0) = m := ⟨_, rfl⟩
        rw [hk7, hk8, hmz]
        have HK7 := hid hk7; have HMZ := hid hmz
        clear hb4 hv4 h1 h2 hk7 hk8 hmz
        go_wp2_with fail
        refine ⟨KK.out _ x4.out, ?_⟩
        refine held_one (i := 5) (by kernel_rfl) (by rfl) (by rfl) ?_
        go_wp2_with fail
        obtain ⟨s1, s2⟩ := set3 b4.out mz a7 a8 k7 c7 k8 c8
        have x5 := hid (below_set (below_set (below_set x4.out (i := 0) ge.out (.bool mz)) (i := 1) ge.out (.slice a7 k7 c7)) (i := 2) ge.out (.slice a8 k8 c8))
        have S2 := hid s2
        clear s1 s2 t0 t1 t2 t3 t4 t5
        refine ⟨KK.out _ x5.out, ?_⟩
        refine wpAnyH_done (by kernel_rfl) ?_ _
        simp only [Only]
        go_wp2_with fail
        go_meet
        exact ⟨_, _, _, _, _, _, _, rfl, by rw [HMZ.out]; exact S2, HK7.out.symm, x5⟩
    · go_wp2_with fail
      have A0 := hid (show Below W.heap.size W (W.alloc (.cells #[.bool false, .slice none 0 0, .slice none 0 0] 89)).drew from ((Below.refl _ _).alloc (Nat.le_refl _) _).drew)
      have b0 := hid (show Blk (W.alloc (.cells #[.bool false, .slice none 0 0, .slice none 0 0] 89)).drew W.heap.size #[.bool false, .slice none 0 0, .slice none 0 0] 89 from Blk.new W _ _)
      refine ⟨KK.out _ A0.out, ?_⟩
      refine held_one (i := 2) (by kernel_rfl) (by rfl) (by rfl) ?_
      go_wp2_with fail
      refine (HG _ _ (Q2.out.call A0.out)).out.mono ?_; rintro e w3 ⟨⟨v3, rfl, hv3⟩, hb3⟩
      have x3 := hid (A0.out.trans (hb3.mono A0.out.size))
      have b3 := hid (b0.out.call hb3)
      have N3 := hid hv3
      obtain ⟨m5, a5, n5, c5, a6, n6, c6, rfl⟩ := hv3.qv
      clear hb3 hv3
      go_wp2_with fail
      refine ⟨KK.out _ x3.out, ?_⟩
      refine held_one (i := 3) (by kernel_rfl) (by rfl) (by rfl) ?_
      go_wp2_with fail
      refine (HO _ _ _ (Q1.out.call x3.out) N3.out).out.mono ?_; rintro e w4 ⟨⟨v4, rfl, hv4⟩, hb4⟩
      have x4 := hid (bnext x3.out hb4)
      have b4 := hid (b3.out.call hb4)
      obtain ⟨N, D, rfl, h1, h2⟩ := hv4.ex
      obtain ⟨a7, c7, rfl, -⟩ := h1.openI
      obtain ⟨a8, c8, rfl, -⟩ := h2.openI
      have t0 := b4.out.cell 0
      have t1 := b4.out.cell 1
      have t2 := b4.out.cell 2
      have t3 := b4.out.free 0
      have t4 := b4.out.free 1
      have t5 := b4.out.free 2
      simp at t0 t1 t2
      have ge := hid (Nat.le_refl W.heap.size)
      obtain ⟨k7, hk7⟩ : ∃ k, (limbs z.num.natAbs).length = k := ⟨_, rfl⟩
      obtain ⟨k8, hk8⟩ : ∃ k, (limbs z.den).length = k := ⟨_, rfl⟩
      obtain ⟨mz, hmz⟩ : ∃ m, decide (z.num < 0) = m := ⟨_, rfl⟩
      rw [hk7, hk8, hmz]
      have HK7 := hid hk7; have HMZ := hid hmz
      clear hb4 hv4 h1 h2 hk7 hk8 hmz
      go_wp2_with fail
      refine ⟨KK.out _ x4.out, ?_⟩
      refine held_one (i := 5) (by kernel_rfl) (by rfl) (by rfl) ?_
      go_wp2_with fail
      obtain ⟨s1, s2⟩ := set3 b4.out mz a7 a8 k7 c7 k8 c8
      have x5 := hid (below_set (below_set (below_set x4.out (i := 0) ge.out (.bool mz)) (i := 1) ge.out (.slice a7 k7 c7)) (i := 2) ge.out (.slice a8 k8 c8))
      have S2 := hid s2
      clear s1 s2 t0 t1 t2 t3 t4 t5
      refine ⟨KK.out _ x5.out, ?_⟩
      refine wpAnyH_done (by kernel_rfl) ?_ _
      simp only [Only]
      go_wp2_with fail
      go_meet
      exact ⟨_, _, _, _, _, _, _, rfl, by rw [HMZ.out]; exact S2, HK7.out.symm, x5⟩
  case rest =>
    obtain ⟨g, a5, n5, c5, a6, n6, c6, rfl, hB, hn, hW⟩ := hcut
    have r0 := hB.out.cell 0
    have r1 := hB.out.cell 1
    simp at r0 r1
    have yz := hid (bnext HY.out hW.out)
    by_cases h1 : z.num = 0
    · have es : Hid (sgnQ z = 0) := by show sgnQ z = 0; rw [sgnQ, if_pos h1]
      obtain rfl : n5 = 0 := by rw [hn.out, h1]; exact limbs_none.2 rfl
      clear h1
      go_wp2_with fail
      go_ret
      exact ⟨by rw [es.out]; rfl, yz.out⟩
    · have h2 : n5 ≠ 0 := fun e => h1 (by rw [hn.out] at e; have := limbs_none.1 e; omega)
      have q1 : ((n5 : Int) == 0) = false := by simp; omega
      obtain ⟨mm, hmm⟩ : ∃ m, decide (z.num < 0) = m := ⟨_, rfl⟩
      have es : sgnQ z = if mm = true then -1 else 1 := by
        rw [sgnQ, if_neg h1, ← hmm]; simp
      have ES := hid es
      rw [hmm] at r0
      clear h1 h2 es hmm
      cases mm
      all_goals
        go_wp2_with fail
        go_ret
        exact ⟨by rw [ES.out]; rfl, yz.out⟩

set_option maxRecDepth 100000 in
set_option maxHeartbeats 1000000 in
theorem r2_Cmp (w : World) (s t : ByteArray) (hs : s.size ≤ 1000000) (ht : t.size ≤ 1000000) :
    Calls Tryz.prog 28 #[.string s, .string t] w fun e w' => e = .returned (.tuple #[.int .i64 (cmB s t), .int .i64 (cmE s t)]) ∧ Below w.heap.size w w' := by
  have R1 := fun V => hid (r2_two V s t hs ht)
  clear hs ht
  by_cases h0 : qE s = 0 ∧ qE t = 0
  · have eB : cmB s t = ordQ (vQ s) (vQ t) := by rw [cmB, if_pos h0]
    have eE : cmE s t = 0 := by rw [cmE, if_pos h0.1, h0.2]
    rw [eB, eE]
    have ds := dig_of_fits (vQ_fits h0.1)
    have dt := dig_of_fits (vQ_fits h0.2)
    have HO := fun V v u hp hq => hid (r2_Order V v u (vQ s) (vQ t) hp hq ds dt)
    obtain ⟨o, ho⟩ : ∃ x, ordQ (vQ s) (vQ t) = x := ⟨_, rfl⟩
    rw [ho] at HO ⊢
    have H0 := hid h0
    clear eB eE ds dt ho h0
    go_enter Tryz.func28, Tryz.ntmps28
    go_wp2_with fail
    refine (R1 _).out.mono ?_; rintro e w1 ⟨⟨m, a, n, c, a', n', c', m2, b, j, d, b', j', d', rfl, hq⟩, hb1⟩
    obtain ⟨q1, q2⟩ := hq H0.out.1 H0.out.2
    rw [if_pos H0.out.1, H0.out.2]
    have b0 := ((Below.refl w1.heap.size w1).alloc (Nat.le_refl _) (.cells #[.bool m, .slice a n c, .slice a' n' c'] 89)).alloc (by simp) (.cells #[.bool m2, .slice b j d, .slice b' j' d'] 89)
    have y2 := hid (bnext hb1 b0)
    have H1 := HO _ _ _ (q1.call b0) (q2.call b0)
    clear hb1 q1 q2 hq b0 HO R1
    go_wp2_with fail
    refine H1.out.mono ?_; rintro e w2 ⟨rfl, hb2⟩
    have y3 := hid (bnext y2.out hb2)
    clear hb2 H1
    go_wp2_with fail
    go_ret2
    exact ⟨rfl, y3.out⟩
  · obtain ⟨n0, -, -⟩ := op2_err (f := (· - ·)) h0
    rw [cmB, if_neg h0, cmE]
    obtain ⟨x, hx⟩ : ∃ x, (if qE s = 0 then qE t else qE s) = x := ⟨_, rfl⟩
    rw [hx] at n0 ⊢
    have q0 : (x != 0) = true := by simpa using n0
    have HX := hid hx
    clear h0 n0 hx
    go_enter Tryz.func28, Tryz.ntmps28
    go_wp2_with fail
    refine (R1 _).out.mono ?_; rintro e w1 ⟨⟨m, a, n, c, a', n', c', m2, b, j, d, b', j', d', rfl, -⟩, hb1⟩
    rw [HX.out]
    have y2 := hid ((hb1.alloc hb1.size (.cells #[.bool m, .slice a n c, .slice a' n' c'] 89)).alloc (Nat.le_trans hb1.size (by simp)) (.cells #[.bool m2, .slice b j d, .slice b' j' d'] 89))
    clear hb1
    go_wp2_with fail
    go_ret2
    exact ⟨rfl, y2.out⟩
end Go.Proofs.YtjgcjjbnnlnilaaGreatDoor

/- Plain: fractions with a given denominator: their signs, order, sums; their texts. -/
namespace Go.Proofs.YtjgcjjbnnlnilaaGreatDoor
open Go.RowKit
open Go.Lib (decDigits nDigits)
set_option linter.unusedVariables false

/-- The sign of an integer. -/
def sgnZ (z : Int) : Int := if z = 0 then 0 else if z < 0 then -1 else 1
theorem mk_num_zero {z : Int} {d : Nat} (hd : d ≠ 0) : (mkRat z d).num = 0 ↔ z = 0 := by
  rw [Rat.num_mkRat, if_neg hd]
  have hg : (0 : Int) < (Nat.gcd d z.natAbs : Nat) := by
    have := Nat.gcd_pos_of_pos_left z.natAbs (Nat.pos_of_ne_zero hd)
    omega
  have hdv : ((Nat.gcd d z.natAbs : Nat) : Int) ∣ z := Int.ofNat_dvd_left.2 (Nat.gcd_dvd_right _ _)
  constructor
  · intro h
    have := Int.ediv_mul_cancel hdv
    rw [h, Int.zero_mul] at this
    exact this.symm
  · rintro rfl; simp
theorem mk_num_neg {z : Int} {d : Nat} (hd : d ≠ 0) : (mkRat z d).num < 0 ↔ z < 0 := by
  rw [Rat.num_mkRat, if_neg hd]
  have hg : (0 : Int) < (Nat.gcd d z.natAbs : Nat) := by
    have := Nat.gcd_pos_of_pos_left z.natAbs (Nat.pos_of_ne_zero hd)
    omega
  constructor
  · intro h
    rcases Int.lt_or_le z 0 with h1 | h1
    · exact h1
    · have := Int.ediv_nonneg h1 (Int.le_of_lt hg)
      omega
  · intro h
    exact Int.ediv_neg_of_neg_of_pos h hg
theorem sgnQ_mk {z : Int} {d : Nat} (hd : d ≠ 0) : sgnQ (mkRat z d) = sgnZ z := by
  unfold sgnQ sgnZ
  by_cases h : z = 0
  · rw [if_pos ((mk_num_zero hd).2 h), if_pos h]
  · rw [if_neg (fun e => h ((mk_num_zero hd).1 e)), if_neg h]
    by_cases h2 : z < 0
    · rw [if_pos ((mk_num_neg hd).2 h2), if_pos h2]
    · rw [if_neg (fun e => h2 ((mk_num_neg hd).1 e)), if_neg h2]
theorem mk_sub {a c : Int} {b d : Nat} (hb : b ≠ 0) (hd : d ≠ 0) : mkRat a b - mkRat c d = mkRat (a * d - c * b) (b * d) := by
  rw [Rat.sub_eq_add_neg, Rat.neg_mkRat, Rat.mkRat_add_mkRat _ _ hb hd, Int.neg_mul, Int.sub_eq_add_neg]
theorem ordQ_mk {a c : Int} {b d : Nat} (hb : b ≠ 0) (hd : d ≠ 0) : ordQ (mkRat a b) (mkRat c d) = sgnZ (a * d - c * b) := by
  unfold ordQ
  rw [mk_sub hb hd, sgnQ_mk (Nat.mul_ne_zero hb hd)]
theorem mk_add_same {a c : Int} {b : Nat} (hb : b ≠ 0) : mkRat a b + mkRat c b = mkRat (a + c) b := by
  rw [Rat.mkRat_add_mkRat _ _ hb hb, ← Int.add_mul]
  exact Rat.mkRat_mul_right hb
theorem mk_half_pow : ∀ n : Nat, (mkRat 1 2 : Rat) ^ n = mkRat 1 (2 ^ n)
  | 0 => by rw [Rat.pow_zero]; rfl
  | n + 1 => by rw [Rat.pow_succ, mk_half_pow n, Rat.mkRat_mul_mkRat, Nat.pow_succ]; rfl
theorem qmk_nat (a b : Nat) : qmk false a b = mkRat (a : Int) b := by unfold qmk sgn; rfl

/-- A fraction of few digits. -/
theorem dig_frac {K : Nat} {z : Int} {d : Nat} (hd : d ≠ 0) (h1 : nDigits z.natAbs ≤ K) (h2 : nDigits d ≤ K) : Dig K (mkRat z d) :=
  dig_mk (Nat.pos_of_ne_zero hd) (Nat.lt_of_lt_of_le (Go.Lib.lt_pow_nDigits _) (Nat.pow_le_pow_right (by omega) h1)) (Nat.lt_of_lt_of_le (Go.Lib.lt_pow_nDigits _) (Nat.pow_le_pow_right (by omega) h2))
theorem shB_tx {a b : Nat} (hb : b ≠ 0) (h1 : nDigits a ≤ 4000) (h2 : nDigits b ≤ 4000) : shB a b = txQ (mkRat (a : Int) b) := by
  unfold shB
  rw [qmk_nat]
  exact outB_fits ((dig_frac hb (by simpa using h1) h2).fits (by omega) (by omega))
theorem numB_tx (k : Nat) : numB k = txQ (mkRat (k : Int) 1) := by
  have e : (mkRat (k : Int) 1 : Rat) = ((k : Int) : Rat) := by rw [Rat.mkRat_one]
  apply ba_ext
  rw [e, txQ, txB_list, numB_list]
  have : ¬ ((k : Int) < 0) := by omega
  simp [this]
theorem op2_txt {f : Rat → Rat → Rat} {p q : Rat} (hp : ¬ ovQ p) (hq : ¬ ovQ q) (h : ¬ ovQ (f p q)) : op2B f (txQ p) (txQ q) = txQ (f p q) ∧ op2E f (txQ p) (txQ q) = 0 := by
  have h1 := qE_txQ hp
  have h2 := qE_txQ hq
  refine ⟨?_, ?_⟩
  · rw [op2B, if_pos ⟨h1, h2⟩, vQ_txQ, vQ_txQ, outB_fits h]
  · rw [op2E, if_pos h1, if_pos h2, vQ_txQ, vQ_txQ, outE_fits h]
theorem sg_txt {q : Rat} (h : ¬ ovQ q) : sgB (txQ q) = sgnQ q ∧ qE (txQ q) = 0 := by
  have h1 := qE_txQ h
  exact ⟨by rw [sgB, if_pos h1, vQ_txQ], h1⟩
theorem cm_txt {p q : Rat} (hp : ¬ ovQ p) (hq : ¬ ovQ q) : cmB (txQ p) (txQ q) = ordQ p q ∧ cmE (txQ p) (txQ q) = 0 := by
  have h1 := qE_txQ hp
  have h2 := qE_txQ hq
  exact ⟨by rw [cmB, if_pos ⟨h1, h2⟩, vQ_txQ, vQ_txQ], by rw [cmE, if_pos h1, h2]⟩
theorem tx_size {q : Rat} (h : ¬ ovQ q) : (txQ q).size ≤ 10000 := by
  have := outB_size q
  rwa [outB_fits h] at this
end Go.Proofs.YtjgcjjbnnlnilaaGreatDoor

/- Walks: law05.value; what it finds in the law and in the exact distribution. -/
namespace Go.Proofs.YtjgcjjbnnlnilaaGreatDoor
open Go.RowKit Go.Shelf
open Go.Lib (decDigits nDigits)
set_option linter.unusedVariables false
set_option linter.unusedSimpArgs false

/-- The probability that stands at a key, or "0". -/
def valM (L : List (ByteArray × ByteArray)) (k : ByteArray) : ByteArray := ((L.find? fun p => decide (p.1 = k)).map (·.2)).getD ⟨#[48]⟩
theorem valM_none {L : List (ByteArray × ByteArray)} {k : ByteArray} (h : ∀ p ∈ L, p.1 ≠ k) : valM L k = ⟨#[48]⟩ := by
  unfold valM
  rw [List.find?_eq_none.2 (fun p hp => by simpa using h p hp)]
  rfl
theorem valM_some {L : List (ByteArray × ByteArray)} {k v : ByteArray} (hm : (k, v) ∈ L) (nd : (L.map keyL).Nodup) : valM L k = v := by
  unfold valM
  cases hf : L.find? (fun p => decide (p.1 = k)) with
  | none =>
    have := List.find?_eq_none.1 hf (k, v) hm
    simp at this
  | some p =>
    have h1 := List.mem_of_find?_eq_some hf
    have h2 : p.1 = k := by simpa using List.find?_some hf
    obtain ⟨i, hi, e1⟩ := List.getElem_of_mem h1
    obtain ⟨j, hj, e2⟩ := List.getElem_of_mem hm
    have e : i = j := by
      rcases Nat.lt_trichotomy i j with h | h | h
      · have := List.pairwise_iff_getElem.1 nd i j (by simpa using hi) (by simpa using hj) h
        simp only [List.getElem_map, e1, e2, keyL, h2, ne_eq, not_true_eq_false] at this
      · exact h
      · have := List.pairwise_iff_getElem.1 nd j i (by simpa using hj) (by simpa using hi) h
        simp only [List.getElem_map, e1, e2, keyL, h2, ne_eq, not_true_eq_false] at this
    subst e
    rw [e1] at e2
    subst e2
    rfl
theorem sortM_nd {L : List (ByteArray × ByteArray)} (nd : (L.map keyL).Nodup) : ((sortM L).map keyL).Nodup := (((List.mergeSort_perm L _).map keyL).nodup_iff).2 nd

theorem numB_inj {i j : Nat} (h : numB i = numB j) : i = j := by rw [← bN_num i, h, bN_num]

theorem val_law {ws : List Nat} {t N i : Nat} (hi : i < N) : valM (sortM (lawP ws t N)) (numB i) = shB (cnt ws t i) t := by
  by_cases h : cntF ws t i < cntE ws t i
  · refine valM_some (sortM_mem.2 ?_) (sortM_nd (reads_lawM (H := Unit) ws t N).nd)
    have : (numB i, shB (cnt ws t i) t) ∈ lawL ws t N := lawL_mem.2 ⟨i, hi, h, rfl⟩
    unfold lawP
    split
    · exact this
    · exact List.mem_append_left _ this
  · have e : cnt ws t i = 0 := by unfold cnt; omega
    rw [e, shB_zero]
    refine valM_none fun p hp e2 => ?_
    rw [sortM_mem] at hp
    unfold lawP at hp
    have h1 : p ∈ lawL ws t N → False := fun hp => by
      obtain ⟨j, -, h3, rfl⟩ := lawL_mem.1 hp
      have := numB_inj e2
      subst this
      exact h h3
    split at hp
    · exact h1 hp
    · rcases List.mem_append.1 hp with hp | hp
      · exact h1 hp
      · simp at hp
        subst hp
        exact numB_late i (congrArg (fun b => b.data.toList) e2.symm)
theorem val_late (ws : List Nat) (t N : Nat) : valM (sortM (lawP ws t N)) lateB = shB (t - lwS ws t N) t := by
  by_cases h : t - lwS ws t N = 0
  · rw [h, shB_zero]
    exact valM_none fun p hp => lawP_late.2 h p (sortM_mem.1 hp)
  · exact valM_some (sortM_mem.2 (lawP_late.1 h)) (sortM_nd (reads_lawM (H := Unit) ws t N).nd)
theorem val_exact {ws : List Nat} {S N i : Nat} (hi : i < N) : valM (sortM (exL ws S N)) (numB i) = shB (ws.getD i 0) S := by
  by_cases h : ws.getD i 0 = 0
  · rw [h, shB_zero]
    refine valM_none fun p hp e2 => ?_
    rw [sortM_mem] at hp
    obtain ⟨j, -, h3, rfl⟩ := exL_mem.1 hp
    have := numB_inj e2
    subst this
    exact h3 h
  · exact valM_some (sortM_mem.2 (exL_mem.2 ⟨i, hi, h, rfl⟩)) (sortM_nd (reads_exD (H := Unit) ws S N).nd)

set_option maxRecDepth 100000 in
set_option maxHeartbeats 1000000 in
theorem w_value (w : World) (v : Value) (L : List (ByteArray × ByteArray)) (k : ByteArray) (hv : MRow w v L) :
    Calls Tryz.prog 25 #[v, .string k] w fun e w' => e = .returned (.string (valM L k)) ∧ w = w' := by
  obtain ⟨a, c, rfl, h1, h2, h3⟩ := hv.ex
  obtain ⟨n, hn⟩ : ∃ n, L.length = n := ⟨_, rfl⟩
  rw [hn] at h1 ⊢
  have H3 := hid h3; have HN := hid hn
  clear hv h3 hn
  go_enter Tryz.func25, Tryz.ntmps25
  go_wp2_with fail
  go_loop [5] (fun ii => ∃ i : Nat, ii = .int .i64 (i : Nat) ∧ i ≤ n ∧ Hid (valM L k = valM (L.drop i) k)) (fun ii => n - (intOf ii).toNat)
  case atStart => exact ⟨0, rfl, Nat.zero_le _, rfl⟩
  case round =>
    obtain ⟨i, rfl, hi, hI⟩ := hrel
    by_cases hlt : i < n
    · obtain ⟨p, hp⟩ : ∃ x, L[i]? = some x := ⟨_, List.getElem?_eq_getElem (by rw [HN.out]; exact hlt)⟩
      obtain ⟨g, o, rfl, hg, m1, m2⟩ := H3.out i p hp
      have hd : L.drop i = p :: L.drop (i + 1) := by
        obtain ⟨h, rfl⟩ := List.getElem?_eq_some_iff.1 hp
        exact List.drop_eq_getElem_cons h
      obtain ⟨x1, x2⟩ := p
      dsimp only at m1 m2
      rw [Nat.mul_comm 2 i] at m1 m2
      have b1 : (0 : Int) ≤ (i : Int) := by omega
      have b2 : (i : Int) < (n : Int) := by omega
      have wi : IntKind.i64.wrap ((i : Int) + 1) = (i : Int) + 1 := by rw [IntWalk.i64_in _ ⟨by omega, by omega⟩]
      by_cases he : x1 = k
      · subst he
        have hR : valM L x1 = x2 := by rw [hI.out, hd, valM, List.find?_cons_of_pos (by simp)]; rfl
        have HR := hid hR
        clear hp hg hd hR
        go_wp2_with fail
        go_ret
        exact ⟨by rw [HR.out]; rfl, rfl⟩
      · have hR : Hid (valM L k = valM (L.drop (i + 1)) k) := by show valM L k = _; rw [hI.out, hd, valM, List.find?_cons_of_neg (by simpa using he)]; rfl
        have n1 : (x1.toList == k.toList) = false := by rw [beq_eq_false_iff_ne]; exact ne_tl he
        clear hp hg hd he
        go_wp2_with fail
        go_round
        case rel => exact ⟨i + 1, by go_num, by omega, hR⟩
        case measure => simp [intOf] <;> omega
    · obtain rfl : i = n := by omega
      have q1 : decide ((i : Int) < (i : Int)) = false := by simp
      have hR : valM L k = ⟨#[48]⟩ := by rw [hI.out, List.drop_of_length_le (by rw [HN.out]; exact Nat.le_refl _)]; rfl
      have HR := hid hR
      clear hlt hR
      go_wp2_with fail
      go_ret
      exact ⟨by rw [HR.out]; rfl, rfl⟩
end Go.Proofs.YtjgcjjbnnlnilaaGreatDoor

/- Plain: the texts that the law PickNear meets. -/
namespace Go.Proofs.YtjgcjjbnnlnilaaGreatDoor
open Go.RowKit
open Go.Lib (decDigits nDigits)
set_option linter.unusedVariables false

/-- The weights of the law: at most 64, of at most 300 digits, not all 0. -/
structure Few (ws : List Nat) : Prop where
  len : ws.length ≤ 64
  dig : ∀ x ∈ ws, nDigits x ≤ 300
  pos : 0 < ws.sum
theorem Few.sum {ws : List Nat} (h : Few ws) : nDigits ws.sum ≤ 302 := nd_sum h.dig (by have := h.len; omega)
theorem Few.pre {ws : List Nat} (h : Few ws) (i : Nat) : nDigits (pre ws i) ≤ 302 := nd_pre i h.sum
theorem Few.at {ws : List Nat} (h : Few ws) (i : Nat) : nDigits (ws.getD i 0) ≤ 300 := by
  cases hx : ws[i]? with
  | some x => rw [List.getD_eq_getElem?_getD, hx]; exact h.dig x (List.mem_of_getElem? hx)
  | none => rw [List.getD_eq_getElem?_getD, hx]; exact Nat.le_trans (by rw [show (none : Option Nat).getD 0 = 0 from rfl, nDigits_zero]; exact Nat.le_refl 1) (by omega)
theorem Few.cnt {ws : List Nat} (h : Few ws) {m : Nat} (hm : m ≤ 256) (i : Nat) : nDigits (cnt ws (2 ^ m) i) ≤ 300 := by
  have h1 := nDigits_mono (Nat.le_trans (cnt_le ws (2 ^ m) i h.pos) (Nat.sub_le _ _))
  have h2 := two_nd (u := m) (by omega)
  omega
theorem two_ne (m : Nat) : 2 ^ m ≠ 0 := Nat.ne_of_gt (Nat.pow_pos (by omega))

/-- A share of the exact distribution, one of the law, what lies between, what has been added up. -/
def exQ (ws : List Nat) (i : Nat) : Rat := mkRat (ws.getD i 0 : Nat) ws.sum
def lwQ (ws : List Nat) (t i : Nat) : Rat := mkRat (cnt ws t i : Nat) t
def gapQ (ws : List Nat) (t i : Nat) : Rat := exQ ws i - lwQ ws t i
def totQ (ws : List Nat) (i : Nat) : Rat := mkRat (pre ws i : Nat) ws.sum
def szQ (t : Nat) : Rat := mkRat 1 t
def twQ (t : Nat) : Rat := mkRat 2 t

theorem frac_fits {K : Nat} {z : Int} {d : Nat} (hd : d ≠ 0) (h1 : nDigits z.natAbs ≤ K) (h2 : nDigits d ≤ K) (hk : K ≤ 4000) : ¬ ovQ (mkRat z d) := by
  have h := dig_frac hd h1 h2
  refine h.fits ?_ hk
  have := nd_pos d
  omega

theorem tw_dig {m : Nat} (hm : m ≤ 256) : Dig 302 (twQ (2 ^ m)) := dig_frac (two_ne m) (by rw [show (2 : Int).natAbs = 2 from rfl, Go.Lib.nDigits_small (by omega)]; omega) (by have := two_nd (u := m) (by omega); omega)
theorem int_less {x c S T : Nat} (hT : 0 < T) (h : x * T < (c + 2) * S) : sgnZ (((x : Int) * (T : Int) - (c : Int) * (S : Int)) * (T : Int) - 2 * ((S * T : Nat) : Int)) = -1 := by
  have h2 : ((x * T : Nat) : Int) < (((c + 2) * S : Nat) : Int) := Int.ofNat_lt.2 h
  rw [Int.natCast_mul, Int.natCast_mul, Int.natCast_add, Int.add_mul] at h2
  have e : ∀ A B D : Int, A * D - 2 * (B * D) = (A - 2 * B) * D := fun A B D => by rw [Int.sub_mul, Int.mul_assoc]
  rw [Int.natCast_mul, e]
  have h3 : (x : Int) * (T : Int) - (c : Int) * (S : Int) - 2 * (S : Int) < 0 := by
    have : ((2 : Nat) : Int) = 2 := rfl
    rw [this] at h2
    omega
  have h4 := Int.mul_neg_of_neg_of_pos h3 (show (0 : Int) < (T : Int) by omega)
  unfold sgnZ
  rw [if_neg (by omega), if_pos h4]

section
variable {ws : List Nat} {m : Nat} (h : Few ws) (hm : m ≤ 256)
include h
theorem ex_dig (i : Nat) : Dig 302 (exQ ws i) := dig_frac (by have := h.pos; omega) (by have := h.at i; simpa using (by omega : nDigits (ws.getD i 0) ≤ 302)) h.sum
theorem tot_dig (i : Nat) : Dig 302 (totQ ws i) := dig_frac (by have := h.pos; omega) (by simpa using h.pre i) h.sum
theorem ex_tx (i : Nat) : shB (ws.getD i 0) ws.sum = txQ (exQ ws i) := shB_tx (by have := h.pos; omega) (by have := h.at i; omega) (by have := h.sum; omega)
theorem gap_mk {i : Nat} : gapQ ws (2 ^ m) i = mkRat ((ws.getD i 0 : Nat) * (2 ^ m : Nat) - (cnt ws (2 ^ m) i : Nat) * (ws.sum : Nat)) (ws.sum * 2 ^ m) := mk_sub (by have := h.pos; omega) (two_ne m)
include hm
theorem lw_dig (i : Nat) : Dig 302 (lwQ ws (2 ^ m) i) := dig_frac (two_ne m) (by have := h.cnt hm i; simpa using (by omega : nDigits (cnt ws (2 ^ m) i) ≤ 302)) (by have := two_nd (u := m) (by omega); omega)
theorem gap_dig (i : Nat) : Dig 605 (gapQ ws (2 ^ m) i) := dig_sub (ex_dig h i) (lw_dig h hm i)
theorem lw_tx (i : Nat) : shB (cnt ws (2 ^ m) i) (2 ^ m) = txQ (lwQ ws (2 ^ m) i) := shB_tx (two_ne m) (by have := h.cnt hm i; omega) (by have := two_nd (u := m) (by omega); omega)

theorem near_sub (i : Nat) : op2B (· - ·) (shB (ws.getD i 0) ws.sum) (shB (cnt ws (2 ^ m) i) (2 ^ m)) = txQ (gapQ ws (2 ^ m) i) ∧ op2E (· - ·) (shB (ws.getD i 0) ws.sum) (shB (cnt ws (2 ^ m) i) (2 ^ m)) = 0 := by
  rw [ex_tx h, lw_tx h hm]
  exact op2_txt ((ex_dig h i).fits (by omega) (by omega)) ((lw_dig h hm i).fits (by omega) (by omega)) ((gap_dig h hm i).fits (by omega) (by omega))
theorem near_sign {i : Nat} (hi : i < ws.length) : 0 ≤ sgB (txQ (gapQ ws (2 ^ m) i)) ∧ qE (txQ (gapQ ws (2 ^ m) i)) = 0 := by
  obtain ⟨e1, e2⟩ := sg_txt ((gap_dig h hm i).fits (by omega) (by omega))
  refine ⟨?_, e2⟩
  rw [e1, gap_mk h, sgnQ_mk (Nat.mul_ne_zero (by have := h.pos; omega) (two_ne m))]
  have hx : ws[i]? = some (ws.getD i 0) := by rw [List.getD_eq_getElem?_getD, List.getElem?_eq_getElem hi]; rfl
  have h1 := cnt_below (2 ^ m) h.pos hx
  have h2 : ((cnt ws (2 ^ m) i * ws.sum : Nat) : Int) ≤ ((ws.getD i 0 * 2 ^ m : Nat) : Int) := Int.ofNat_le.2 h1
  rw [Int.natCast_mul, Int.natCast_mul] at h2
  unfold sgnZ
  split
  · omega
  · split
    · omega
    · omega
theorem near_less {i : Nat} (hi : i < ws.length) : cmB (txQ (gapQ ws (2 ^ m) i)) (txQ (twQ (2 ^ m))) = -1 ∧ cmE (txQ (gapQ ws (2 ^ m) i)) (txQ (twQ (2 ^ m))) = 0 := by
  obtain ⟨e1, e2⟩ := cm_txt ((gap_dig h hm i).fits (by omega) (by omega)) ((tw_dig hm).fits (by omega) (by omega))
  refine ⟨?_, e2⟩
  rw [e1, gap_mk h]
  unfold twQ
  rw [ordQ_mk (Nat.mul_ne_zero (by have := h.pos; omega) (two_ne m)) (two_ne m)]
  have hx : ws[i]? = some (ws.getD i 0) := by rw [List.getD_eq_getElem?_getD, List.getElem?_eq_getElem hi]; rfl
  have h1 := cnt_near (2 ^ m) h.pos hx
  exact int_less (Nat.pow_pos (by omega)) h1
omit hm
theorem near_add {i : Nat} (hi : i < ws.length) : op2B (· + ·) (txQ (totQ ws i)) (shB (ws.getD i 0) ws.sum) = txQ (totQ ws (i + 1)) ∧ op2E (· + ·) (txQ (totQ ws i)) (shB (ws.getD i 0) ws.sum) = 0 := by
  have e : totQ ws i + exQ ws i = totQ ws (i + 1) := by
    unfold totQ exQ
    rw [mk_add_same (by have := h.pos; omega), pre_step, Int.natCast_add]
  rw [ex_tx h, ← e]
  exact op2_txt ((tot_dig h i).fits (by omega) (by omega)) ((ex_dig h i).fits (by omega) (by omega)) (by rw [e]; exact (tot_dig h (i + 1)).fits (by omega) (by omega))
theorem tot_end : txQ (totQ ws ws.length) = ⟨#[49]⟩ := by
  have e : totQ ws ws.length = mkRat ((1 : Nat) : Int) 1 := by
    unfold totQ
    rw [pre_all (Nat.le_refl _)]
    have := Rat.mkRat_mul_left (n := 1) (d := 1) (a := ws.sum) (by have := h.pos; omega)
    simpa using this
  rw [e, ← numB_tx, numB_one]
end

theorem tot_start (ws : List Nat) : txQ (totQ ws 0) = ⟨#[48]⟩ := by
  have e : totQ ws 0 = mkRat ((0 : Nat) : Int) 1 := by unfold totQ; rw [pre_zero]; simp
  rw [e, ← numB_tx, numB_zero]
theorem sz_dig {m : Nat} (hm : m ≤ 256) : Dig 302 (szQ (2 ^ m)) := dig_frac (two_ne m) (by rw [show (1 : Int).natAbs = 1 from rfl, nDigits_one]; omega) (by have := two_nd (u := m) (by omega); omega)
theorem half_tx : (⟨#[49, 47, 50]⟩ : ByteArray) = txQ (mkRat 1 2) := by
  apply ba_ext
  rw [txQ, txB_list]
  have e1 : (mkRat 1 2 : Rat).num = 1 := by decide +kernel
  have e2 : (mkRat 1 2 : Rat).den = 2 := by decide +kernel
  rw [e1, e2]
  simp [decDigits_small]
theorem half_fits : ¬ ovQ (mkRat 1 2) := frac_fits (K := 1) (by decide) (by rw [show (1 : Int).natAbs = 1 from rfl, nDigits_one]; omega) (by rw [Go.Lib.nDigits_small (by omega)]; omega) (by omega)
theorem half_ok : qE ⟨#[49, 47, 50]⟩ = 0 ∧ vQ ⟨#[49, 47, 50]⟩ = mkRat 1 2 ∧ 0 ≤ (mkRat 1 2 : Rat).num := by
  rw [half_tx]
  exact ⟨qE_txQ half_fits, vQ_txQ _, by decide +kernel⟩
theorem near_pow {m : Nat} (hm : m ≤ 256) : outB ((mkRat 1 2 : Rat) ^ m) = txQ (szQ (2 ^ m)) ∧ outE ((mkRat 1 2 : Rat) ^ m) = 0 := by
  rw [mk_half_pow]
  have f := (sz_dig hm).fits (by omega) (by omega)
  exact ⟨outB_fits f, outE_fits f⟩
theorem near_mul {m : Nat} (hm : m ≤ 256) {k : Nat} (hk : nDigits k ≤ 300) : op2B (· * ·) (numB k) (txQ (szQ (2 ^ m))) = txQ (mkRat (k : Nat) (2 ^ m)) ∧ op2E (· * ·) (numB k) (txQ (szQ (2 ^ m))) = 0 := by
  have e : (mkRat (k : Int) 1 : Rat) * szQ (2 ^ m) = mkRat (k : Nat) (2 ^ m) := by
    unfold szQ
    rw [Rat.mkRat_mul_mkRat, Int.mul_one, Nat.one_mul]
  have d1 : Dig 302 (mkRat (k : Int) 1) := dig_frac (by omega) (by simpa using (by omega : nDigits k ≤ 302)) (by rw [nDigits_one]; omega)
  rw [numB_tx, ← e]
  exact op2_txt (d1.fits (by omega) (by omega)) ((sz_dig hm).fits (by omega) (by omega)) ((dig_mul d1 (sz_dig hm)).fits (by omega) (by omega))
theorem near_late {m : Nat} (hm : m ≤ 256) {L k : Nat} (hL : L ≤ k) (hk : nDigits k ≤ 300) : cmB (shB L (2 ^ m)) (txQ (mkRat (k : Nat) (2 ^ m))) ≤ 0 ∧ cmE (shB L (2 ^ m)) (txQ (mkRat (k : Nat) (2 ^ m))) = 0 := by
  have nt := two_nd (u := m) (by omega)
  have hLd := nDigits_mono hL
  rw [shB_tx (two_ne m) (by omega) (by omega)]
  have f1 : ¬ ovQ (mkRat (L : Int) (2 ^ m)) := frac_fits (K := 302) (two_ne m) (by simpa using (by omega : nDigits L ≤ 302)) (by omega) (by omega)
  have f2 : ¬ ovQ (mkRat (k : Int) (2 ^ m)) := frac_fits (K := 302) (two_ne m) (by simpa using (by omega : nDigits k ≤ 302)) (by omega) (by omega)
  obtain ⟨e1, e2⟩ := cm_txt f1 f2
  refine ⟨?_, e2⟩
  rw [e1, ordQ_mk (two_ne m) (two_ne m)]
  have h1 : ((L * 2 ^ m : Nat) : Int) ≤ ((k * 2 ^ m : Nat) : Int) := Int.ofNat_le.2 (Nat.mul_le_mul_right _ hL)
  rw [Int.natCast_mul, Int.natCast_mul] at h1
  unfold sgnZ
  split
  · omega
  · split
    · omega
    · omega
end Go.Proofs.YtjgcjjbnnlnilaaGreatDoor

/- Plain words: the reference's insertions give the program's lists. -/
namespace Go.Proofs.YtjgcjjbnnlnilaaGreatDoor
open Go.RowKit Go.Shelf
open Go.Lib (decDigits nDigits)
set_option linter.unusedVariables false

theorem shB_ne {a b : Nat} (hb : b ≠ 0) (h1 : nDigits a ≤ 4000) (h2 : nDigits b ≤ 4000) (ha : a ≠ 0) : shB a b ≠ ⟨#[48]⟩ := fun e => by
  rw [← shB_zero b, shB_tx hb h1 h2, shB_tx hb (by rw [nDigits_zero]; omega) h2] at e
  have e' := congrArg vQ e
  rw [vQ_txQ, vQ_txQ] at e'
  have h3 := (Rat.mkRat_eq_iff hb hb).1 e'
  have h4 : ((a * b : Nat) : Int) = 0 := by rw [Int.natCast_mul, h3]; simp
  have hp : 0 < a * b := Nat.mul_pos (by omega) (by omega)
  omega

theorem nodup_pw {L : List (ByteArray × ByteArray)} (h : (L.map keyL).Nodup) : L.Pairwise (fun x y => x.1 ≠ y.1) := by
  rw [List.Nodup, List.pairwise_map] at h
  exact h.imp fun hne e => hne (by unfold keyL; rw [e])

theorem exL_add {ws : List Nat} {S i : Nat} (hS : S ≠ 0) (h1 : nDigits (ws.getD i 0) ≤ 4000) (h2 : nDigits S ≤ 4000) : addL (sortM (exL ws S i)) (numB i) (shB (ws.getD i 0) S) = sortM (exL ws S (i + 1)) := by
  by_cases h0 : ws.getD i 0 = 0
  · rw [h0, shB_zero, addL, if_pos rfl, exL, if_neg (by simpa using h0)]
  · rw [exL, if_pos h0]
    refine addL_sort (shB_ne hS h1 h2 h0) ?_ ?_
    · intro x hx e
      obtain ⟨j, h1, -, rfl⟩ := exL_mem.1 hx
      have := dec_inj (by have := congrArg (fun b : ByteArray => b.data.toList) e; simpa [numB_list] using this)
      omega
    · exact nodup_pw (reads_exD (H := Unit) ws S i).nd

theorem cnt_fit {ws : List Nat} {t i : Nat} (hS : 0 < ws.sum) : cnt ws t i ≤ t := Nat.le_trans (Nat.sub_le _ _) (cntE_fit t i hS)
theorem two_dig {x : Nat} (h : x ≤ 2 ^ 256) : nDigits x ≤ 4000 := Nat.le_trans (nDigits_le (k := 78) (by omega) (Nat.lt_of_le_of_lt h (by decide))) (by omega)

theorem lawL_add {ws : List Nat} {t i : Nat} (ht : t ≠ 0) (hT : t ≤ 2 ^ 256) (hS : 0 < ws.sum) : addL (sortM (lawL ws t i)) (numB i) (shB (cnt ws t i) t) = sortM (lawL ws t (i + 1)) := by
  by_cases h0 : cntF ws t i < cntE ws t i
  · rw [lawL, if_pos h0]
    refine addL_sort (shB_ne ht (two_dig (Nat.le_trans (cnt_fit hS) hT)) (two_dig hT) (by unfold cnt; omega)) ?_ ?_
    · intro x hx e
      obtain ⟨j, h1, -, rfl⟩ := lawL_mem.1 hx
      have := dec_inj (by have := congrArg (fun b : ByteArray => b.data.toList) e; simpa [numB_list] using this)
      omega
    · exact nodup_pw (reads_lawD (H := Unit) ws t i).nd
  · have e : cnt ws t i = 0 := by unfold cnt; omega
    rw [e, shB_zero, addL, if_pos rfl, lawL, if_neg h0]

theorem lawP_add {ws : List Nat} {t N : Nat} (ht : t ≠ 0) (hT : t ≤ 2 ^ 256) : addL (sortM (lawL ws t N)) lateB (shB (t - lwS ws t N) t) = sortM (lawP ws t N) := by
  by_cases h0 : t - lwS ws t N = 0
  · rw [h0, shB_zero, addL, if_pos rfl, lawP, if_pos h0]
  · rw [lawP, if_neg h0]
    refine addL_sort (shB_ne ht (two_dig (Nat.le_trans (Nat.sub_le _ _) hT)) (two_dig hT) h0) ?_ ?_
    · intro x hx e
      obtain ⟨j, h1, -, rfl⟩ := lawL_mem.1 hx
      exact numB_late j (by rw [← e])
    · exact nodup_pw (reads_lawD (H := Unit) ws t N).nd
end Go.Proofs.YtjgcjjbnnlnilaaGreatDoor

/- Walks: ref05.Law, ref05.Exact. -/
namespace Go.Proofs.YtjgcjjbnnlnilaaGreatDoor
open Go.RowKit Go.Shelf
open Go.Lib (decDigits nDigits)
set_option linter.unusedVariables false
set_option linter.unusedSimpArgs false

theorem MRow.openM {w : World} {v : Value} {L : List (ByteArray × ByteArray)} (h : MRow w v L) : ∃ a c, v = .slice a L.length c := by
  obtain ⟨a, c, e, -⟩ := h.ex
  exact ⟨a, c, e⟩
theorem sortM_nil : sortM [] = [] := by rw [sortM, List.mergeSort_nil]

set_option maxRecDepth 100000 in
set_option maxHeartbeats 4000000 in
theorem r5_Law (w : World) (v : Value) (l : List ByteArray) (n : Int) (hv : Row w v (strs l)) (hl : ∀ x ∈ l, x.size ≤ 1000000) :
    Calls Tryz.prog 35 #[v, .int .i64 n] w fun e w' => (∃ u, e = .returned (.tuple #[u, .int .i64 (lawE l n)]) ∧ MRow w' u (lawR l n)) ∧ Below w.heap.size w w' := by
  have PC := hid ((r5_Check w v l hv hl).mono fun e w' (h : e = .returned (.int .i64 (wsE l)) ∧ w = w') => (⟨h.1, h.2 ▸ Below.refl _ _⟩ : e = .returned (.int .i64 (wsE l)) ∧ Below w.heap.size w w'))
  have HV := hid hv
  obtain ⟨a, c, rfl, q1, q2, -⟩ := hv.openS
  by_cases he : wsE l = 0
  · by_cases hr : n < 0 ∨ 256 < n
    · have e1 : lawE l n = 2 := by rw [lawE, if_neg (by simpa using he), if_pos hr]
      have e2 : lawR l n = [] := by unfold lawR; rw [if_neg (by rw [e1]; decide)]
      rw [e1, e2]
      rw [he] at PC
      obtain ⟨N, hN⟩ : ∃ N, l.length = N := ⟨_, rfl⟩
      rw [hN] at PC q1 ⊢
      clear hv hl hN HV e1 e2 he
      by_cases h4 : n < 0
      · have q0 : decide (n < 0) = true := by simpa using h4
        clear hr h4
        go_enter Tryz.func35, Tryz.ntmps35
        go_wp2_with fail
        refine PC.out.mono ?_; rintro e w1 ⟨rfl, hb1⟩
        go_wp2_with fail
        go_ret2
        exact ⟨⟨_, rfl, MRow.nil _⟩, hb1⟩
      · have q0 : decide (n < 0) = false := by simpa using h4
        have q1' : decide (256 < n) = true := by simp; omega
        clear hr h4
        go_enter Tryz.func35, Tryz.ntmps35
        go_wp2_with fail
        refine PC.out.mono ?_; rintro e w1 ⟨rfl, hb1⟩
        go_wp2_with fail
        go_ret2
        exact ⟨⟨_, rfl, MRow.nil _⟩, hb1⟩
    · obtain ⟨m, rfl⟩ : ∃ m : Nat, n = m := ⟨n.toNat, by omega⟩
      have hm : m ≤ 256 := by omega
      have e1 : lawE l (m : Int) = 0 := by rw [lawE, if_neg (by simpa using he), if_neg hr]
      have e2 : lawR l (m : Int) = sortM (lawP (l.map bN) (2 ^ m) l.length) := by unfold lawR; rw [if_pos e1]; simp
      obtain ⟨D1, D2, D3⟩ := wsE_ok he
      have hS := wsE_pos he
      have hlen : (l.map bN).length = l.length := by simp
      have RC := hid fun V (hV : Row V (.slice a l.length c) (strs l)) => r5_counts V (.slice a l.length c) (l.map bN) m D2 hS (by rw [← D1]; exact hV) hm
      have RL := hid fun V u (hu : NRow V u (l.map bN).length (cnt (l.map bN) (2 ^ m))) => r5_late V u (l.map bN) m hS hm D2.len hu
      have RS := hid fun V u x (hx : x ≤ 2 ^ 256) (hu : IsN .i64 V u x) => r3_Share V u x m hu hm hx
      have tle : 2 ^ m ≤ 2 ^ 256 := Nat.pow_le_pow_right (by omega) hm
      have HC := hid fun i => Nat.le_trans (cnt_fit (ws := l.map bN) (t := 2 ^ m) (i := i) hS) tle
      have HLT := hid (late_ok he m hm)
      have HA := hid fun i => lawL_add (ws := l.map bN) (t := 2 ^ m) (i := i) (two_ne m) tle hS
      have HP := hid (lawP_add (ws := l.map bN) (t := 2 ^ m) (N := l.length) (two_ne m) tle)
      rw [hlen] at RL RC
      rw [e1, e2]
      rw [he] at PC
      have q0 : decide ((m : Int) < 0) = false := by simp
      have q1' : decide ((256 : Int) < (m : Int)) = false := by simp; omega
      have D4 := D2.len
      rw [hlen] at D4
      obtain ⟨N, hN⟩ : ∃ N, l.length = N := ⟨_, rfl⟩
      rw [hN] at PC q1 RL RC HV HLT HP D4 ⊢
      obtain ⟨ws, hws⟩ : ∃ ws, l.map bN = ws := ⟨_, rfl⟩
      rw [hws] at RL RC HC HLT HA HP ⊢
      obtain ⟨t, ht⟩ : ∃ t, 2 ^ m = t := ⟨_, rfl⟩
      rw [ht] at RL RC HC HLT HA HP RS ⊢
      obtain ⟨Y, hY⟩ : ∃ Y, t - lwS ws t N = Y := ⟨_, rfl⟩
      rw [hY] at RL HLT HP
      obtain ⟨f, hf⟩ : ∃ f, cnt ws t = f := ⟨_, rfl⟩
      rw [hf] at RL RC
      have HF := hid hf
      have HAL : Hid (∀ i, (sortM (lawL ws t i)).length ≤ i) := fun i => by rw [sortM_length]; exact lawL_length ws t i
      clear hv hl hN e1 e2 he hr D1 D2 D3 hS hlen hY hf ht hws tle
      go_enter Tryz.func35, Tryz.ntmps35
      go_wp2_with fail
      refine PC.out.mono ?_; rintro e w1 ⟨rfl, hb1⟩
      have B1 := hid hb1; clear hb1
      go_wp2_with fail
      refine (RC.out _ (HV.out.call B1.out)).mono ?_; rintro e w2 ⟨⟨u2, rfl, hu2⟩, hb2⟩
      have U2 := hid hu2; have B2 := hid (bnext B1.out hb2)
      obtain ⟨a2, c2, rfl, r1, r2, r3⟩ := hu2.open
      have R3 := hid r3
      clear hu2 hb2 r3
      go_wp2_with fail
      go_loopw [8, 9] (fun dd ii wr => ∃ i : Nat, ii = .int .i64 i ∧ i ≤ N ∧ Hid (MRow wr dd (sortM (lawL ws t i))) ∧ Hid (Below w2.heap.size w2 wr)) (fun dd ii wr => N - (intOf ii).toNat)
      case atStart => exact ⟨0, rfl, Nat.zero_le _, by show MRow _ _ _; rw [lawL, sortM_nil]; exact MRow.nil _, Below.refl _ _⟩
      case round =>
        obtain ⟨i, rfl, hi, hM, hB⟩ := hrel
        obtain ⟨aM, cM, rfl⟩ := hM.out.openM
        by_cases hlt : i < N
        · obtain ⟨g, o, y, rfl, hg, hc, hy⟩ := R3.out i hlt
          obtain ⟨ay, cy, rfl, -, -, -⟩ := hy.openI
          have HY := hid hy
          have KK : Hid (∀ w', Below w2.heap.size w2 w' → w'.cell? ⟨g, o + i, none⟩ = some (.slice ay (limbs (f i)).length cy)) := fun w' hb => (hb.cell (p := ⟨g, o + i, none⟩) hg).trans hc
          have c1 : (0 : Int) ≤ (i : Int) := by omega
          have c2 : (i : Int) < (N : Int) := by omega
          have wi : IntKind.i64.wrap ((i : Int) + 1) = ((i + 1 : Nat) : Int) := by rw [IntWalk.i64_in _ ⟨by omega, by omega⟩]; omega
          have RI := fun V => hid (r2_Int V i (by omega))
          have HCI := hid (show f i ≤ 2 ^ 256 from by rw [← HF.out]; exact HC.out i)
          have HAI := hid (show addL (sortM (lawL ws t i)) (numB i) (shB (f i) t) = sortM (lawL ws t (i + 1)) from by rw [← HF.out]; exact HA.out i)
          have RA := fun V u key p hu => hid (r4_Add V u (sortM (lawL ws t i)) key p hu (by have := HAL.out i; omega))
          obtain ⟨L, hL⟩ : ∃ L, (sortM (lawL ws t i)).length = L := ⟨_, rfl⟩
          rw [hL] at hM ⊢
          obtain ⟨I0, hI0⟩ : ∃ s, numB i = s := ⟨_, rfl⟩
          obtain ⟨J0, hJ0⟩ : ∃ s, shB (f i) t = s := ⟨_, rfl⟩
          rw [hI0] at RI
          rw [hI0, hJ0] at HAI
          have HJ0 := hid hJ0
          obtain ⟨ly, hly⟩ : ∃ x, (limbs (f i)).length = x := ⟨_, rfl⟩
          rw [hly] at HY KK
          clear hc hy hL hI0 hJ0 hly
          go_wp2_with fail
          go_region_held3 (fun w' => w'.cell? ⟨g, o + i, none⟩ = some (.slice ay ly cy))
            (first
              | exact KK.out _ hB.out.drew
              | exact KK.out _ (hB.out.trans (B4.out.mono hB.out.size))
              | exact KK.out _ (hB.out.trans (B3.out.mono hB.out.size)))
            (first
              | (go_at_call 20; refine (RI _).out.mono ?_; rintro e w3 ⟨rfl, rfl⟩)
              | (go_at_call 85; refine (RS.out _ _ _ HCI.out (HY.out.call (hB.out.drew))).mono ?_; rintro e w3 ⟨rfl, hb3⟩; have B3 := hid (show Below wr.heap.size wr w3 from (Below.refl _ _).drew.trans hb3); clear hb3)
              | (go_at_call 88; refine (RA _ _ _ _ (hM.out.call B3.out)).out.mono ?_; rintro e w4 ⟨⟨u4, rfl, hu4⟩, hb4⟩; have U4 := hid hu4; have B4 := hid (bnext B3.out hb4); clear hu4 hb4))
          rw [HJ0.out, HAI.out] at U4
          go_wp2_with fail
          go_roundw
          case rel => exact ⟨i + 1, by go_num, by omega, U4, bnext hB.out B4.out⟩
          case measure => simp [intOf] <;> omega
        · obtain rfl : i = N := by omega
          have RA := fun V u key p hu => hid (r4_Add V u (sortM (lawL ws t i)) key p hu (by have := HAL.out i; omega))
          obtain ⟨L, hL⟩ : ∃ L, (sortM (lawL ws t i)).length = L := ⟨_, rfl⟩
          rw [hL] at hM ⊢
          obtain ⟨J0, hJ0⟩ : ∃ s, shB Y t = s := ⟨_, rfl⟩
          rw [hJ0] at HP
          have HJ0 := hid hJ0
          clear hL hJ0
          go_wp2_with fail
          refine (RL.out _ _ (U2.out.call hB.out)).mono ?_; rintro e w3 ⟨⟨u3, rfl, hu3⟩, hb3⟩
          have U3 := hid hu3; have B3 := hid (bnext hB.out hb3); have BR3 := hid hb3; clear hu3 hb3
          go_wp2_with fail
          refine (RS.out _ _ _ HLT.out U3.out).mono ?_; rintro e w4 ⟨rfl, hb4⟩
          have B4 := hid (bnext B3.out hb4); have BR4 := hid (bnext BR3.out hb4); clear hb4
          go_wp2_with fail
          refine (RA _ _ _ _ (hM.out.call BR4.out)).out.mono ?_; rintro e w5 ⟨⟨u5, rfl, hu5⟩, hb5⟩
          have U5 := hid hu5; have B5 := hid (bnext B4.out hb5); clear hu5 hb5
          rw [HJ0.out] at U5
          have hpp := HP.out
          unfold lateB at hpp
          rw [hpp] at U5
          clear hpp
          go_wp2_with fail
          go_ret2
          exact ⟨⟨_, rfl, U5.out⟩, bnext B2.out B5.out⟩
  · have e1 : lawE l n = wsE l := by rw [lawE, if_pos he]
    have e2 : lawR l n = [] := by unfold lawR; rw [if_neg (by rw [e1]; exact he)]
    rw [e1, e2]
    obtain ⟨N, hN⟩ : ∃ N, l.length = N := ⟨_, rfl⟩
    obtain ⟨z, hz⟩ : ∃ z, wsE l = z := ⟨_, rfl⟩
    rw [hN, hz] at PC
    rw [hN, hz]
    rw [hN] at q1
    rw [hz] at he
    have q0 : (z != 0) = true := by simpa using he
    clear hv hl hN HV e1 e2 he hz
    go_enter Tryz.func35, Tryz.ntmps35
    go_wp2_with fail
    refine PC.out.mono ?_; rintro e w1 ⟨rfl, hb1⟩
    go_wp2_with fail
    go_ret2
    exact ⟨⟨_, rfl, MRow.nil _⟩, hb1⟩
end Go.Proofs.YtjgcjjbnnlnilaaGreatDoor

/- Walks: ref05.Exact. -/
namespace Go.Proofs.YtjgcjjbnnlnilaaGreatDoor
open Go.RowKit Go.Shelf
open Go.Lib (decDigits nDigits)
set_option linter.unusedVariables false
set_option linter.unusedSimpArgs false

set_option maxRecDepth 100000 in
set_option maxHeartbeats 4000000 in
theorem r5_Exact (w : World) (v : Value) (l : List ByteArray) (hv : Row w v (strs l)) (hl : ∀ x ∈ l, x.size ≤ 1000000) :
    Calls Tryz.prog 36 #[v] w fun e w' => (∃ u, e = .returned (.tuple #[u, .int .i64 (wsE l)]) ∧ MRow w' u (exR l)) ∧ Below w.heap.size w w' := by
  have PC := hid ((r5_Check w v l hv hl).mono fun e w' (h : e = .returned (.int .i64 (wsE l)) ∧ w = w') => (⟨h.1, h.2 ▸ Below.refl _ _⟩ : e = .returned (.int .i64 (wsE l)) ∧ Below w.heap.size w w'))
  have HV := hid hv
  obtain ⟨a, c, rfl, q1, q2, -⟩ := hv.openS
  by_cases he : wsE l = 0
  · have e2 : exR l = sortM (exL (l.map bN) (l.map bN).sum l.length) := by unfold exR; rw [if_pos he]
    obtain ⟨D1, D2, D3⟩ := wsE_ok he
    have hS := wsE_pos he
    have hlen : (l.map bN).length = l.length := by simp
    have RS := hid fun V (hV : Row V (.slice a l.length c) (strs l)) => r5_Sums V (.slice a l.length c) (l.map bN) D2 (by rw [← D1]; exact hV)
    rw [hlen] at RS
    rw [e2, he]
    rw [he] at PC
    have D4 := D2.len
    rw [hlen] at D4
    have HD1 := hid D1; have HWS := hid D2; have HS := hid hS; have HLEN := hid hlen
    obtain ⟨N, hN⟩ : ∃ N, l.length = N := ⟨_, rfl⟩
    rw [hN] at PC q1 RS HV D4 HLEN ⊢
    obtain ⟨ws, hws⟩ : ∃ ws, l.map bN = ws := ⟨_, rfl⟩
    rw [hws] at RS HD1 HWS HS HLEN ⊢
    have HALL := hid (show pre ws N = ws.sum from pre_all (by rw [HLEN.out]; omega))
    obtain ⟨S, hSS⟩ : ∃ S, ws.sum = S := ⟨_, rfl⟩
    have HSS := hid hSS
    rw [hSS] at HS HALL ⊢
    have HSD := hid (show nDigits S ≤ 3802 from by rw [← hSS]; exact HWS.out.sum)
    have HAL : Hid (∀ i, (sortM (exL ws S i)).length ≤ i) := fun i => by rw [sortM_length]; exact exL_length ws S i
    have HAD := hid fun i (h : nDigits (ws.getD i 0) ≤ 3800) => exL_add (ws := ws) (S := S) (i := i) (by have := HS.out; omega) (by omega) (by have := HSD.out; omega)
    have LS : Hid ((limbs S).length ≤ 1000000) := num_limbs (by have := HSD.out; omega)
    clear hv hl hN e2 he D1 D2 D3 hS hlen hws hSS
    go_enter Tryz.func36, Tryz.ntmps36
    go_wp2_with fail
    refine PC.out.mono ?_; rintro e w1 ⟨rfl, hb1⟩
    have B1 := hid hb1; clear hb1
    go_wp2_with fail
    refine (RS.out _ (HV.out.call B1.out)).mono ?_; rintro e w2 ⟨⟨u2, rfl, hu2⟩, hb2⟩
    have B2 := hid (bnext B1.out hb2)
    obtain ⟨a2, c2, rfl, r1, r2, r3⟩ := hu2.open
    obtain ⟨g, o, y, rfl, hg, hc, hy⟩ := r3 N (by omega)
    rw [HALL.out] at hy
    have HY := hid hy
    have b1 : (0 : Int) ≤ (N : Int) := by omega
    have b2 : (N : Int) < (N : Int) + 1 := by omega
    have b3 : (N : Int) < ((N + 1 : Nat) : Int) := by omega
    clear hu2 hb2 r3 hy
    go_wp2_with fail
    refine (r1_Write _ _ _ HY.out LS.out).mono ?_; rintro e w3 ⟨rfl, hb3⟩
    have B3 := hid (bnext B2.out hb3)
    rw [numV_eq]
    obtain ⟨S0, hS0⟩ : ∃ s, numB S = s := ⟨_, rfl⟩
    have HS0 := hid hS0
    rw [hS0]
    clear hb3 hc HY hg b1 b2 b3 hS0 r1 r2
    go_wp2_with fail
    go_loopw [7, 8] (fun dd ii wr => ∃ i : Nat, ii = .int .i64 i ∧ i ≤ N ∧ Hid (MRow wr dd (sortM (exL ws S i))) ∧ Hid (Below w3.heap.size w3 wr)) (fun dd ii wr => N - (intOf ii).toNat)
    case atStart => exact ⟨0, rfl, Nat.zero_le _, by show MRow _ _ _; rw [exL, sortM_nil]; exact MRow.nil _, Below.refl _ _⟩
    case round =>
      obtain ⟨i, rfl, hi, hM, hB⟩ := hrel
      obtain ⟨aM, cM, rfl⟩ := hM.out.openM
      by_cases hlt : i < N
      · obtain ⟨x, hx⟩ : ∃ x, ws[i]? = some x := ⟨_, List.getElem?_eq_getElem (by rw [HLEN.out]; exact hlt)⟩
        obtain ⟨g', o', rfl, hg', hc'⟩ := HV.out.at (strs_get (show l[i]? = some (numB x) by rw [HD1.out, List.getElem?_map, hx]; rfl))
        have BW := hid (bnext B3.out hB.out)
        have hc2 := (BW.out.cell (p := ⟨g', o' + i, none⟩) hg').trans hc'
        have hgd : ws.getD i 0 = x := by rw [List.getD_eq_getElem?_getD, hx]; rfl
        have hxd := HWS.out.dig x (List.mem_of_getElem? hx)
        have HAI := hid (show addL (sortM (exL ws S i)) (numB i) (shB x S) = sortM (exL ws S (i + 1)) from by have := HAD.out i (by rw [hgd]; exact hxd); rw [hgd] at this; exact this)
        have RM := fun V => hid (r2_Make_num V x S (by omega) (by have := HSD.out; omega) (by have := HS.out; omega))
        have RI := fun V => hid (r2_Int V i (by omega))
        have RA := fun V u key p hu => hid (r4_Add V u (sortM (exL ws S i)) key p hu (by have := HAL.out i; omega))
        have c1 : (0 : Int) ≤ (i : Int) := by omega
        have c2' : (i : Int) < (N : Int) := by omega
        have wi : IntKind.i64.wrap ((i : Int) + 1) = ((i + 1 : Nat) : Int) := by rw [IntWalk.i64_in _ ⟨by omega, by omega⟩]; omega
        obtain ⟨L, hL⟩ : ∃ L, (sortM (exL ws S i)).length = L := ⟨_, rfl⟩
        rw [hL] at hM ⊢
        obtain ⟨X0, hX0⟩ : ∃ s, numB x = s := ⟨_, rfl⟩
        obtain ⟨I0, hI0⟩ : ∃ s, numB i = s := ⟨_, rfl⟩
        obtain ⟨J0, hJ0⟩ : ∃ s, shB x S = s := ⟨_, rfl⟩
        have e3 : outB (qmk false x S) = J0 := hJ0
        obtain ⟨oe, hoe⟩ : ∃ s, outE (qmk false x S) = s := ⟨_, rfl⟩
        rw [hX0, HS0.out, e3, hoe] at RM
        rw [hX0] at hc2
        rw [hI0] at RI
        rw [hI0, hJ0] at HAI
        clear hx hg' hc' hgd hxd hL hX0 hI0 hJ0 e3 hoe
        go_wp2_with fail
        refine (RM _).out.mono ?_; rintro e w4 ⟨rfl, hb4⟩
        have B4 := hid (bnext hB.out hb4); have BR4 := hid hb4; clear hb4
        go_wp2_with fail
        refine (RI _).out.mono ?_; rintro e w5 ⟨rfl, rfl⟩
        go_wp2_with fail
        refine (RA _ _ _ _ (hM.out.call BR4.out)).out.mono ?_; rintro e w5 ⟨⟨u5, rfl, hu5⟩, hb5⟩
        rw [HAI.out] at hu5
        have U5 := hid hu5; have B5 := hid (bnext B4.out hb5); clear hu5 hb5 hc2
        go_wp2_with fail
        go_roundw
        case rel => exact ⟨i + 1, by go_num, by omega, U5, B5⟩
        case measure => simp [intOf] <;> omega
      · obtain rfl : i = N := by omega
        obtain ⟨L, hL⟩ : ∃ L, (sortM (exL ws S i)).length = L := ⟨_, rfl⟩
        rw [hL] at hM ⊢
        clear hL
        go_wp2_with fail
        go_ret2
        exact ⟨⟨_, rfl, hM.out⟩, bnext B3.out hB.out⟩
  · have e2 : exR l = [] := by unfold exR; rw [if_neg he]
    rw [e2]
    obtain ⟨N, hN⟩ : ∃ N, l.length = N := ⟨_, rfl⟩
    obtain ⟨z, hz⟩ : ∃ z, wsE l = z := ⟨_, rfl⟩
    rw [hN, hz] at PC
    rw [hN, hz]
    rw [hN] at q1
    rw [hz] at he
    have q0 : (z != 0) = true := by simpa using he
    clear hv hl hN HV e2 he hz
    go_enter Tryz.func36, Tryz.ntmps36
    go_wp2_with fail
    refine PC.out.mono ?_; rintro e w1 ⟨rfl, hb1⟩
    go_wp2_with fail
    go_ret2
    exact ⟨⟨_, rfl, MRow.nil _⟩, hb1⟩
end Go.Proofs.YtjgcjjbnnlnilaaGreatDoor

/- Walks: the reference's ToInt. -/
namespace Go.Proofs.YtjgcjjbnnlnilaaGreatDoor
open Go.RowKit
open Go.Lib (decDigits nDigits)
set_option linter.unusedVariables false

/-- "9223372036854775807". -/
def maxB : ByteArray := ⟨#[57, 50, 50, 51, 51, 55, 50, 48, 51, 54, 56, 53, 52, 55, 55, 53, 56, 48, 55]⟩
/-- The greatest int. -/
def maxI : Nat := 9223372036854775807
theorem maxB_err : errN maxB.data.toList = 0 := by decide +kernel
theorem maxB_dv : dv maxB.data.toList = maxI := by decide +kernel
theorem maxB_size : maxB.size ≤ 9223372036854775807 := by decide +kernel

theorem dv_take_le (l : List UInt8) (i : Nat) : dv (l.take i) ≤ dv l := by
  have h := dv_append (l.take i) (l.drop i)
  rw [List.take_append_drop] at h
  have h1 : dv (l.take i) ≤ 10 ^ (l.drop i).length * dv (l.take i) := Nat.le_mul_of_pos_left _ (Nat.pow_pos (by omega))
  omega

/-- What ToInt returns. -/
def toIV (l : List UInt8) : Int := if errN l = 0 ∧ dv l ≤ maxI then (dv l : Int) else 0
def toIE (l : List UInt8) : Int := if errN l = 0 then (if dv l ≤ maxI then 0 else 2) else errN l

theorem ret_two {a b x y : Int} {k k' : IntKind} (h1 : a = b) (h2 : x = y) : Ending.returned (.tuple #[.int k a, .int k' x]) = .returned (.tuple #[.int k b, .int k' y]) := by rw [h1, h2]

set_option maxRecDepth 100000 in
set_option maxHeartbeats 1000000 in
theorem r1_ToInt (w : World) (s : ByteArray) (hs : s.size ≤ 9223372036854775807) : Calls Tryz.prog 84 #[.string s] w fun e w' =>
    e = .returned (.tuple #[.int .i64 (toIV s.data.toList), .int .i64 (toIE s.data.toList)]) ∧ Below w.heap.size w w' := by
  by_cases h : errN s.data.toList = 0
  · have HE := hid h
    obtain ⟨a, rfl, ha⟩ := errN_read h
    have hl : (numB a).data.toList = decDigits a := numB_list a
    have hcmp := hid (show cmpN (numB a).data.toList maxB.data.toList = ordN a maxI from by rw [cmpN, if_pos ⟨h, maxB_err⟩, maxB_dv, hl, dv_dec])
    clear h
    by_cases hle : a ≤ maxI
    · have hV := hid (show toIV (numB a).data.toList = (a : Int) from by rw [toIV, if_pos ⟨HE.out, by rw [hl, dv_dec]; exact hle⟩, hl, dv_dec])
      have hE := hid (show toIE (numB a).data.toList = 0 from by rw [toIE, if_pos HE.out, if_pos (by rw [hl, dv_dec]; exact hle)])
      have hord := hid (show ordN a maxI ≤ 0 from by unfold ordN; split; · omega
                                                     · split <;> omega)
      have hmx : a ≤ 9223372036854775807 := hle
      obtain ⟨B, hB⟩ : ∃ B, numB a = B := ⟨_, rfl⟩
      have hBs := hid (show B.size = nDigits a from by rw [← hB]; exact numB_size a)
      rw [hB] at HE hcmp hl hs hV hE ⊢
      have HL := hid hl
      have hdig := hid (show allDig B.data.toList from by rw [hl]; exact allDig_dec a)
      rw [hV.out, hE.out]
      clear hB hl hle hV hE ha
      have HM := hid hmx; clear hmx
      go_enter Tryz.func84, Tryz.ntmps84
      go_wp2_with fail
      refine (r1_Check _ B hs).mono ?_; rintro e w1 ⟨rfl, rfl⟩
      rw [HE.out]
      go_wp2_with fail
      refine (r1_Cmp _ B maxB hs maxB_size).mono ?_; rintro e w1 ⟨rfl, hb1⟩
      have B1 := hid hb1; clear hb1
      rw [hcmp.out]
      obtain ⟨t, ht⟩ : ∃ t, ordN a maxI = t := ⟨_, rfl⟩
      rw [ht] at hord ⊢
      have q0 : decide ((0 : Int) < t) = false := by have := hord.out; simp; omega
      clear ht
      go_wp2_with fail
      go_loop [5, 6] (fun nn ii => ∃ (i x : Nat), ii = .int .i64 i ∧ nn = .int .i64 x ∧ i ≤ B.size ∧ Hid (x = dv (B.data.toList.take i))) (fun _ ii => B.size - (intOf ii).toNat)
      case atStart => exact ⟨0, 0, rfl, rfl, Nat.zero_le _, by simp [Hid]⟩
      case round =>
        obtain ⟨i, x, rfl, rfl, hi, hx⟩ := hrel
        by_cases hlt : i < B.size
        · have hb := hid (byte_get hlt)
          have hdg := isDig_iff.1 (hdig.out B[i] (List.mem_of_getElem? hb.out))
          have hd1 := hdg.1; have hd2 := hdg.2
          have hstep := hid (dv_take_succ hb.out)
          have hbound : 10 * x + (B[i].toNat - 48) ≤ 9223372036854775807 := by
            have h1 := dv_take_le B.data.toList (i + 1)
            rw [hstep.out, ← hx.out, HL.out, dv_dec] at h1
            exact Nat.le_trans h1 HM.out
          clear hdg
          go_wp2_with fail
          go_round
          case rel =>
            refine ⟨i + 1, 10 * x + (B[i].toNat - 48), by go_num, ?_, by omega, ?_⟩
            · congr 1; omega
            · rw [Hid, hstep.out, ← hx.out]
          case measure => simp [intOf] <;> omega
        · obtain rfl : i = B.size := by omega
          have hxa := hid (show x = a from by
            rw [hx.out, List.take_of_length_le (by simp), HL.out, dv_dec])
          go_wp2_with fail
          go_ret2
          exact ⟨ret_two (by rw [hxa.out]) rfl, B1.out⟩
    · have hV := hid (show toIV (numB a).data.toList = 0 from by rw [toIV, if_neg (fun h => hle (by have := h.2; rwa [hl, dv_dec] at this))])
      have hE := hid (show toIE (numB a).data.toList = 2 from by rw [toIE, if_pos HE.out, if_neg (by rw [hl, dv_dec]; exact hle)])
      have hord := hid (show ordN a maxI = 1 from ordN_gt (by omega))
      rw [hV.out, hE.out]
      obtain ⟨B, hB⟩ : ∃ B, numB a = B := ⟨_, rfl⟩
      rw [hB] at HE hcmp hs ⊢
      clear hB hl hle hV hE ha
      go_enter Tryz.func84, Tryz.ntmps84
      go_wp2_with fail
      refine (r1_Check _ B hs).mono ?_; rintro e w1 ⟨rfl, rfl⟩
      rw [HE.out]
      go_wp2_with fail
      refine (r1_Cmp _ B maxB hs maxB_size).mono ?_; rintro e w1 ⟨rfl, hb1⟩
      have B1 := hid hb1; clear hb1
      rw [hcmp.out, hord.out]
      go_wp2_with fail
      go_ret2
      exact ⟨rfl, B1.out⟩
  · have hV := hid (show toIV s.data.toList = 0 from by rw [toIV, if_neg (fun k => h k.1)])
    obtain ⟨x, hx⟩ : ∃ x, errN s.data.toList = x := ⟨_, rfl⟩
    have hE := hid (show toIE s.data.toList = x from by rw [toIE, if_neg h, hx])
    have q0 : (x != 0) = true := by rw [hx] at h; simp; omega
    have HX := hid hx
    rw [hV.out, hE.out]
    clear h hx hV hE
    go_enter Tryz.func84, Tryz.ntmps84
    go_wp2_with fail
    refine (r1_Check _ s hs).mono ?_; rintro e w1 ⟨rfl, rfl⟩
    rw [HX.out]
    go_wp2_with fail
    go_ret2
    exact ⟨rfl, Below.refl _ _⟩
end Go.Proofs.YtjgcjjbnnlnilaaGreatDoor
