/- GeomMass: the row and the tied card: for every text and every integer the law answers true; conditions: none beyond the row's own. -/
import Derived.Test.YtikfgddgfddbaaaGreatDoorMs9
import Derived.Deep.RegionHeld3
namespace Go.Proofs.YtikfgddgfddbaaaGreatDoor
open Go.RowKit
set_option linter.unusedVariables false

set_option maxHeartbeats 2000000 in
theorem r2_Times (w : World) (v u : Value) (p q : Rat) (hp : IsQ .i64 w v p) (hq : IsQ .i64 w u q)
    (h1 : (limbs p.num.natAbs).length ≤ 100000) (h2 : (limbs p.den).length ≤ 100000) (h3 : (limbs q.num.natAbs).length ≤ 100000) (h4 : (limbs q.den).length ≤ 100000) :
    Calls Tryz.prog 44 #[v, u] w fun e w' => RetQ .i64 (p * q) e w' ∧ Below w.heap.size w w' := by
  have HQ := hid (qmk_mul p q)
  rw [← HQ.out]
  have hD := hid (Nat.mul_pos p.den_pos q.den_pos)
  obtain ⟨N1, D1, rfl, hn1, hd1⟩ := hp.ex
  obtain ⟨N2, D2, rfl, hn2, hd2⟩ := hq.ex
  clear hp hq HQ
  generalize decide (p.num < 0) = m1 at *
  generalize decide (q.num < 0) = m2 at *
  generalize p.num.natAbs = n1 at *
  generalize q.num.natAbs = n2 at *
  generalize p.den = d1 at *
  generalize q.den = d2 at *
  have HN1 := hid hn1; have HD1 := hid hd1; have HN2 := hid hn2; have HD2 := hid hd2
  have L1 := hid (Nat.le_trans (limbs_mul h1 h3) (show 100000 + 100000 ≤ 1000000 by omega))
  have L2 := hid (Nat.le_trans (limbs_mul h2 h4) (show 100000 + 100000 ≤ 1000000 by omega))
  have H1 := hid (Nat.le_trans h1 (show 100000 ≤ 1000000 by omega))
  have H2 := hid (Nat.le_trans h2 (show 100000 ≤ 1000000 by omega))
  have H3 := hid (Nat.le_trans h3 (show 100000 ≤ 1000000 by omega))
  have H4 := hid (Nat.le_trans h4 (show 100000 ≤ 1000000 by omega))
  clear h1 h2 h3 h4
  obtain ⟨a1, c1, rfl, _⟩ := hn1.openI
  obtain ⟨a2, c2, rfl, _⟩ := hd1.openI
  obtain ⟨a3, c3, rfl, _⟩ := hn2.openI
  obtain ⟨a4, c4, rfl, _⟩ := hd2.openI
  clear hn1 hd1 hn2 hd2
  go_enter Tryz.func44, Tryz.ntmps44
  go_wp2_with fail
  obtain ⟨W, hW⟩ : ∃ W, ((w.alloc (.cells #[.bool m1, .slice a1 (limbs n1).length c1, .slice a2 (limbs d1).length c2] 51)).alloc (.cells #[.bool m2, .slice a3 (limbs n2).length c3, .slice a4 (limbs d2).length c4] 51)).alloc (.cells #[.bool false, .slice none 0 0, .slice none 0 0] 51) = W := ⟨_, rfl⟩
  rw [hW]
  have X0 : Below w.heap.size w W := by rw [← hW]; exact (((Below.refl _ _).alloc (Nat.le_refl _) _).alloc (by simp) _).alloc (by simp; omega) _
  have Y0 : Blk W w.heap.size #[.bool m1, .slice a1 (limbs n1).length c1, .slice a2 (limbs d1).length c2] 51 := by rw [← hW]; exact ((Blk.new w _ _).alloc _).alloc _
  have Y1 : Blk W (w.heap.size + 1) #[.bool m2, .slice a3 (limbs n2).length c3, .slice a4 (limbs d2).length c4] 51 := by rw [← hW]; exact (Blk.made (w.alloc _) _ _ (by simp)).alloc _
  have Y2 : Blk W (w.heap.size + 1 + 1) #[.bool false, .slice none 0 0, .slice none 0 0] 51 := by rw [← hW]; exact Blk.made ((w.alloc _).alloc _) _ _ (by simp)
  have K0 : ∀ w', Blk w' w.heap.size #[.bool m1, .slice a1 (limbs n1).length c1, .slice a2 (limbs d1).length c2] 51 → Blk w' (w.heap.size + 1) #[.bool m2, .slice a3 (limbs n2).length c3, .slice a4 (limbs d2).length c4] 51 →
      w'.cell? ⟨w.heap.size, 0, none⟩ = some (.bool m1) ∧ w'.cell? ⟨w.heap.size, 1, none⟩ = some (.slice a1 (limbs n1).length c1) ∧ w'.cell? ⟨w.heap.size, 2, none⟩ = some (.slice a2 (limbs d1).length c2) ∧
      w'.cell? ⟨w.heap.size + 1, 0, none⟩ = some (.bool m2) ∧ w'.cell? ⟨w.heap.size + 1, 1, none⟩ = some (.slice a3 (limbs n2).length c3) ∧ w'.cell? ⟨w.heap.size + 1, 2, none⟩ = some (.slice a4 (limbs d2).length c4) :=
    fun w' y0 y1 => ⟨y0.cell 0, y0.cell 1, y0.cell 2, y1.cell 0, y1.cell 1, y1.cell 2⟩
  have K : Hid (∀ w', Below W.heap.size W w' → w'.cell? ⟨w.heap.size, 0, none⟩ = some (.bool m1) ∧ w'.cell? ⟨w.heap.size, 1, none⟩ = some (.slice a1 (limbs n1).length c1) ∧ w'.cell? ⟨w.heap.size, 2, none⟩ = some (.slice a2 (limbs d1).length c2) ∧
      w'.cell? ⟨w.heap.size + 1, 0, none⟩ = some (.bool m2) ∧ w'.cell? ⟨w.heap.size + 1, 1, none⟩ = some (.slice a3 (limbs n2).length c3) ∧ w'.cell? ⟨w.heap.size + 1, 2, none⟩ = some (.slice a4 (limbs d2).length c4)) := fun w' hb => K0 w' (Y0.call hb) (Y1.call hb)
  have K2 : Hid (∀ w1 x y z, Below W.heap.size W w1 → ∀ w', ((w1.setCell ⟨w.heap.size + 1 + 1, 0, none⟩ x).setCell ⟨w.heap.size + 1 + 1, 1, none⟩ y).setCell ⟨w.heap.size + 1 + 1, 2, none⟩ z = w' → w'.cell? ⟨w.heap.size, 0, none⟩ = some (.bool m1) ∧ w'.cell? ⟨w.heap.size, 1, none⟩ = some (.slice a1 (limbs n1).length c1) ∧ w'.cell? ⟨w.heap.size, 2, none⟩ = some (.slice a2 (limbs d1).length c2) ∧
      w'.cell? ⟨w.heap.size + 1, 0, none⟩ = some (.bool m2) ∧ w'.cell? ⟨w.heap.size + 1, 1, none⟩ = some (.slice a3 (limbs n2).length c3) ∧ w'.cell? ⟨w.heap.size + 1, 2, none⟩ = some (.slice a4 (limbs d2).length c4)) := by
    rintro w1 x y z hb _ rfl
    exact K0 _ ((((Y0.call hb).other (by simp; omega) _).other (by simp; omega) _).other (by simp; omega) _) ((((Y1.call hb).other (by simp) _).other (by simp) _).other (by simp) _)
  have HY2 := hid Y2; have HX0 := hid X0
  obtain ⟨k0, k1, k2, k3, k4, k5⟩ := K W (Below.refl _ _)
  clear K0
  clear Y0 Y1 Y2 X0 hW
  have XN1 := hid (HN1.out.call HX0.out); have XD1 := hid (HD1.out.call HX0.out); have XN2 := hid (HN2.out.call HX0.out); have XD2 := hid (HD2.out.call HX0.out)
  go_region_held3 (fun w' => w'.cell? ⟨w.heap.size, 0, none⟩ = some (.bool m1) ∧ w'.cell? ⟨w.heap.size, 1, none⟩ = some (.slice a1 (limbs n1).length c1) ∧ w'.cell? ⟨w.heap.size, 2, none⟩ = some (.slice a2 (limbs d1).length c2) ∧
      w'.cell? ⟨w.heap.size + 1, 0, none⟩ = some (.bool m2) ∧ w'.cell? ⟨w.heap.size + 1, 1, none⟩ = some (.slice a3 (limbs n2).length c3) ∧ w'.cell? ⟨w.heap.size + 1, 2, none⟩ = some (.slice a4 (limbs d2).length c4))
    (first
      | exact K.out _ (Below.refl _ _).drew
      | exact K2.out _ _ _ _ B3.out _ rfl
      | exact K.out _ B3.out
      | exact K.out _ B2.out
      | exact K.out _ B1.out)
    (first
      | (go_at_call_of 78 (Value.slice a1 (limbs n1).length c1); refine (r1_Times _ _ _ n1 n2 (XN1.out.call (by first | exact B2.out | exact (Below.refl _ _).drew)) (XN2.out.call (by first | exact B2.out | exact (Below.refl _ _).drew)) H1.out H3.out).mono ?_; rintro e w1 ⟨⟨v1, rfl, hv1⟩, hb1⟩; have B1 := hid (bnext (by first | exact B2.out | exact (Below.refl _ _).drew) hb1))
      | (go_at_call_of 78 (Value.slice a2 (limbs d1).length c2); refine (r1_Times _ _ _ d1 d2 (XD1.out.call (by first | exact B1.out | exact (Below.refl _ _).drew)) (XD2.out.call (by first | exact B1.out | exact (Below.refl _ _).drew)) H2.out H4.out).mono ?_; rintro e w2 ⟨⟨v2, rfl, hv2⟩, hb2⟩; have B2 := hid (bnext (by first | exact B1.out | exact (Below.refl _ _).drew) hb2))
      | (go_at_call 79; refine (r2_Reduce _ _ _ _ (n1 * n2) (d1 * d2) (by first | exact hv1 | exact hv1.call hb2) (by first | exact hv2 | exact hv2.call hb1) hD.out L1.out L2.out).mono ?_; rintro e w3 ⟨⟨v3, rfl, hv3⟩, hb3⟩; obtain ⟨N3, D3, rfl, hN3, hD3⟩ := hv3.ex; have B3 := hid (bnext (by first | exact B2.out | exact B1.out) hb3); obtain ⟨a5, c5, rfl, _⟩ := hN3.openI; obtain ⟨a6, c6, rfl, _⟩ := hD3.openI; have HN3 := hid hN3; have HD3 := hid hD3; have Z := hid (HY2.out.call B3.out); have t0 := Z.out.cell 0; have t1 := Z.out.cell 1; have t2 := Z.out.cell 2; have t3 := Z.out.free 0; have t4 := Z.out.free 1; have t5 := Z.out.free 2; clear hv3 hN3 hD3))
  have hbn : (!(m1 == m2)) = (m1 != m2) := rfl
  rw [hbn] at *
  go_wp2_with fail
  obtain ⟨s1, s2⟩ := set3 Z.out (decide ((qmk (m1 != m2) (n1 * n2) (d1 * d2)).num < 0)) a5 a6 (limbs (qmk (m1 != m2) (n1 * n2) (d1 * d2)).num.natAbs).length c5 (limbs (qmk (m1 != m2) (n1 * n2) (d1 * d2)).den).length c6
  have f0 := s2.cell 0
  have f1 := s2.cell 1
  have f2 := s2.cell 2
  simp at f0 f1 f2
  refine bodyPost_ret (v := .agg #[.bool (decide ((qmk (m1 != m2) (n1 * n2) (d1 * d2)).num < 0)), .slice a5 (limbs (qmk (m1 != m2) (n1 * n2) (d1 * d2)).num.natAbs).length c5, .slice a6 (limbs (qmk (m1 != m2) (n1 * n2) (d1 * d2)).den).length c6]) (by simp [results, Tryz.results44, go_sem, f0, f1, f2]) rfl ⟨⟨_, rfl, ⟨_, _, rfl, s1 _ _ _ HN3.out, s1 _ _ _ HD3.out⟩⟩, ?_⟩
  exact (((HX0.out.trans (B3.out.mono (Nat.le_trans (Nat.le_refl _) HX0.out.size))).setCell (by simp; omega) _).setCell (by simp; omega) _).setCell (by simp; omega) _
end Go.Proofs.YtikfgddgfddbaaaGreatDoor

/- Walks: the reference's two, Add, Mul. -/
namespace Go.Proofs.YtikfgddgfddbaaaGreatDoor
open Go.RowKit
open Go.Lib (decDigits nDigits)
set_option linter.unusedVariables false
set_option linter.unusedSimpArgs false

/-- The shape of a struct that holds a rational number, or nothing. -/
def Qv (v : Value) : Prop := ∃ (m : Bool) (a : Option Addr) (n c : Nat) (a' : Option Addr) (n' c' : Nat), v = .agg #[.bool m, .slice a n c, .slice a' n' c']

theorem IsQ.qv {k : IntKind} {w : World} {v : Value} {q : Rat} (h : IsQ k w v q) : Qv v := by
  obtain ⟨N, D, rfl, h1, h2⟩ := h.ex
  obtain ⟨a1, c1, rfl, _⟩ := h1.openI
  obtain ⟨a2, c2, rfl, _⟩ := h2.openI
  exact ⟨_, _, _, _, _, _, _, rfl⟩
theorem RetQE.open {s : ByteArray} {e : Ending} {w' : World} (h : RetQE s e w') : ∃ (m : Bool) (a : Option Addr) (n c : Nat) (a' : Option Addr) (n' c' : Nat), e = .returned (.tuple #[.agg #[.bool m, .slice a n c, .slice a' n' c'], .int .i64 (qE s)]) ∧ (qE s = 0 → IsQ .i64 w' (.agg #[.bool m, .slice a n c, .slice a' n' c']) (vQ s)) ∧ (qE s ≠ 0 → m = false ∧ a = none ∧ n = 0 ∧ c = 0 ∧ a' = none ∧ n' = 0 ∧ c' = 0) := by
  obtain ⟨v, rfl, h1, h2⟩ := h
  by_cases h0 : qE s = 0
  · obtain ⟨m, a, n, c, a', n', c', rfl⟩ := (h1 h0).qv
    exact ⟨m, a, n, c, a', n', c', rfl, h1, fun h => absurd h0 h⟩
  · obtain rfl := h2 h0
    exact ⟨_, _, _, _, _, _, _, rfl, h1, fun _ => ⟨rfl, rfl, rfl, rfl, rfl, rfl, rfl⟩⟩

theorem IsQ.keep {k : IntKind} {w w' : World} {v : Value} {q : Rat} (h : IsQ k w v q) (f : ∀ k v x, IsN k w v x → IsN k w' v x) : IsQ k w' v q := by
  obtain ⟨N, D, rfl, h1, h2⟩ := h.ex
  exact ⟨N, D, rfl, f _ _ _ h1, f _ _ _ h2⟩
theorem IsN.drew {k : IntKind} {w : World} {v : Value} {n : Nat} (h : IsN k w v n) : IsN k w.drew v n := Row.drew h

/-- What two gives back. -/
def RetTwo (s t : ByteArray) (e : Ending) (w' : World) : Prop := ∃ (m : Bool) (a : Option Addr) (n c : Nat) (a' : Option Addr) (n' c' : Nat) (m2 : Bool) (b : Option Addr) (j d : Nat) (b' : Option Addr) (j' d' : Nat),
  e = .returned (.tuple #[.agg #[.bool m, .slice a n c, .slice a' n' c'], .agg #[.bool m2, .slice b j d, .slice b' j' d'], .int .i64 (if qE s = 0 then qE t else qE s)]) ∧
  (qE s = 0 → qE t = 0 → IsQ .i64 w' (.agg #[.bool m, .slice a n c, .slice a' n' c']) (vQ s) ∧ IsQ .i64 w' (.agg #[.bool m2, .slice b j d, .slice b' j' d']) (vQ t))

set_option maxRecDepth 100000 in
set_option maxHeartbeats 1000000 in
theorem r2_two (w : World) (s t : ByteArray) (hs : s.size ≤ 1000000) (ht : t.size ≤ 1000000) :
    Calls Tryz.prog 41 #[.string s, .string t] w fun e w' => RetTwo s t e w' ∧ Below w.heap.size w w' := by
  have R1 := fun V => hid (r2_Read V s hs)
  have R2 := fun V => hid (r2_Read V t ht)
  have t0 := hid (Blk.new w #[.bool false, .slice none 0 0, .slice none 0 0] 51)
  have t1 := hid ((Below.refl w.heap.size w).alloc (Nat.le_refl _) (.cells #[.bool false, .slice none 0 0, .slice none 0 0] 51))
  have u0 := hid ((Blk.new w #[.bool false, .slice none 0 0, .slice none 0 0] 51).alloc (.cells #[.bool false, .slice none 0 0, .slice none 0 0] 51))
  have u1 := hid (Blk.made (w.alloc (.cells #[.bool false, .slice none 0 0, .slice none 0 0] 51)) #[.bool false, .slice none 0 0, .slice none 0 0] 51 (n := w.heap.size + 1) (by simp))
  have u2 := hid (t1.out.alloc (by simp) (.cells #[.bool false, .slice none 0 0, .slice none 0 0] 51))
  clear hs ht t0 t1
  go_enter Tryz.func41, Tryz.ntmps41
  go_wp2_with fail
  refine (R1 _).out.mono ?_; rintro e w1 ⟨hr1, hb1⟩
  obtain ⟨m, a, n, c, a', n', c', rfl, h1, h2⟩ := hr1.open
  have v0 := hid (u0.out.call hb1); have v1 := hid (u1.out.call hb1); have v2 := hid (bnext u2.out hb1)
  have l1 := v1.out.lt
  have n1 : (w1.heap.size = w.heap.size) = False := by simp; omega
  have n2 : (w.heap.size = w1.heap.size) = False := by simp; omega
  have n3 : (w1.heap.size = w.heap.size + 1) = False := by simp; omega
  have n4 : (w.heap.size + 1 = w1.heap.size) = False := by simp; omega
  obtain ⟨x, hx⟩ : ∃ x, qE s = x := ⟨_, rfl⟩
  have HXX := hid hx
  by_cases h0 : x = 0
  · subst h0
    rw [hx]
    have Q1 := hid (h1 hx)
    clear h1 h2 hr1 hb1 R1 hx
    have X7 := hid (Blk.new w1 #[.bool m, .slice a n c, .slice a' n' c'] 51)
    have b7 := hid ((Below.refl w1.heap.size w1).alloc (Nat.le_refl _) (.cells #[.bool m, .slice a n c, .slice a' n' c'] 51))
    have x0 := hid (v0.out.call b7.out); have x1 := hid (v1.out.call b7.out); have x2 := hid (bnext v2.out b7.out); have Q2 := hid (Q1.out.call b7.out)
    clear v0 v1 v2 Q1 b7
    go_wp2_with fail
    refine (R2 _).out.mono ?_; rintro e w2 ⟨hr2, hb2⟩
    obtain ⟨m2, b, j, d, b', j', d', rfl, k1, k2⟩ := hr2.open
    have y0 := hid (x0.out.call hb2); have y1 := hid (x1.out.call hb2); have y2 := hid (bnext x2.out hb2); have y7 := hid (X7.out.call hb2); have Q3 := hid (Q2.out.call hb2)
    have K1 := hid k1
    clear x0 x1 x2 X7 Q2 hb2 hr2 k1 k2 R2
    have l2 := y7.out.lt
    have n5 : (w2.heap.size = w.heap.size) = False := by simp; omega
    have n6 : (w.heap.size = w2.heap.size) = False := by simp; omega
    have n7 : (w2.heap.size = w.heap.size + 1) = False := by simp; omega
    have n8 : (w.heap.size + 1 = w2.heap.size) = False := by simp; omega
    clear l1 l2
    obtain ⟨z, hz⟩ : ∃ z, qE t = z := ⟨_, rfl⟩
    have HZ := hid hz
    rw [hz]
    clear hz
    have X9 := hid (Blk.new w2 #[.bool m2, .slice b j d, .slice b' j' d'] 51)
    have b9 := hid ((Below.refl w2.heap.size w2).alloc (Nat.le_refl _) (.cells #[.bool m2, .slice b j d, .slice b' j' d'] 51))
    have z0 := hid (y0.out.call b9.out); have z1 := hid (y1.out.call b9.out); have z2 := hid (bnext y2.out b9.out); have z7 := hid (y7.out.call b9.out); have Q4 := hid (Q3.out.call b9.out)
    have K2 := fun h => hid ((K1.out h).call b9.out)
    clear y0 y1 y2 y7 Q3 b9 K1
    have HH1 := z0.out.cell 0
    have HH2 := z0.out.cell 1
    have HH3 := z0.out.cell 2
    have HH4 := z0.out.free 0
    have HH5 := z0.out.free 1
    have HH6 := z0.out.free 2
    have KK1 := z1.out.cell 0
    have KK2 := z1.out.cell 1
    have KK3 := z1.out.cell 2
    have KK4 := z1.out.free 0
    have KK5 := z1.out.free 1
    have KK6 := z1.out.free 2
    have JJ1 := z7.out.cell 0
    have JJ2 := z7.out.cell 1
    have JJ3 := z7.out.cell 2
    simp at HH1 HH2 HH3 KK1 KK2 KK3 JJ1 JJ2 JJ3

    have II1 := X9.out.cell 0
    have II2 := X9.out.cell 1
    have II3 := X9.out.cell 2
    simp at II1 II2 II3
    go_wp2_with fail
    go_region
    obtain ⟨p1, p2⟩ := set3 z0.out m a a' n c n' c'
    have r1 := ((z1.out.other (a := ⟨w.heap.size, 0, none⟩) (by simp) (.bool m)).other (a := ⟨w.heap.size, 1, none⟩) (by simp) (.slice a n c)).other (a := ⟨w.heap.size, 2, none⟩) (by simp) (.slice a' n' c')
    obtain ⟨p3, p4⟩ := set3 r1 m2 b b' j d j' d'
    have p5 := ((p2.other (a := ⟨w.heap.size + 1, 0, none⟩) (by simp) (.bool m2)).other (a := ⟨w.heap.size + 1, 1, none⟩) (by simp) (.slice b j d)).other (a := ⟨w.heap.size + 1, 2, none⟩) (by simp) (.slice b' j' d')
    have f0 := p5.drew.cell 0
    have f1 := p5.drew.cell 1
    have f2 := p5.drew.cell 2
    have g0 := p4.drew.cell 0
    have g1 := p4.drew.cell 1
    have g2 := p4.drew.cell 2
    simp at f0 f1 f2 g0 g1 g2
    go_wp2_with fail
    refine bodyPost_ret (v := .tuple #[.agg #[.bool m, .slice a n c, .slice a' n' c'], .agg #[.bool m2, .slice b j d, .slice b' j' d'], .int .i64 z]) (by simp [results, Tryz.results41, go_sem, f0, f1, f2, g0, g1, g2]) rfl ⟨⟨m, a, n, c, a', n', c', m2, b, j, d, b', j', d', by rw [if_pos HXX.out, HZ.out], fun h1 h2 => ⟨(Q4.out.keep fun k v x h => (p3 _ _ _ (p1 _ _ _ h)).drew), ((K2 h2).out.keep fun k v x h => (p3 _ _ _ (p1 _ _ _ h)).drew)⟩⟩, ?_⟩
    exact ((((((z2.out.setCell (Nat.le_refl _) _).setCell (Nat.le_refl _) _).setCell (Nat.le_refl _) _).setCell (Nat.le_succ _) _).setCell (Nat.le_succ _) _).setCell (Nat.le_succ _) _).drew
  · rw [hx]
    have q0 : (x != 0) = true := by simpa using h0
    obtain ⟨rfl, rfl, rfl, rfl, rfl, rfl, rfl⟩ := h2 (by rw [hx]; exact h0)
    have H0 := hid h0
    clear h1 h2 hr1 hb1 R1 R2 hx h0
    have X7 := hid (Blk.new w1 #[.bool false, .slice none 0 0, .slice none 0 0] 51)
    have b7 := hid ((Below.refl w1.heap.size w1).alloc (Nat.le_refl _) (.cells #[.bool false, .slice none 0 0, .slice none 0 0] 51))
    have x0 := hid (v0.out.call b7.out); have x1 := hid (v1.out.call b7.out); have x2 := hid (bnext v2.out b7.out)
    clear v0 v1 v2 b7
    have HH1 := x0.out.cell 0
    have HH2 := x0.out.cell 1
    have HH3 := x0.out.cell 2
    have HH4 := x0.out.free 0
    have HH5 := x0.out.free 1
    have HH6 := x0.out.free 2
    have KK1 := x1.out.cell 0
    have KK2 := x1.out.cell 1
    have KK3 := x1.out.cell 2
    have KK4 := x1.out.free 0
    have KK5 := x1.out.free 1
    have KK6 := x1.out.free 2
    have JJ1 := X7.out.cell 0
    have JJ2 := X7.out.cell 1
    have JJ3 := X7.out.cell 2
    simp at HH1 HH2 HH3 KK1 KK2 KK3 JJ1 JJ2 JJ3

    go_wp2_with fail
    go_region
    obtain ⟨p1, p2⟩ := set3 x0.out false none none 0 0 0 0
    have r1 := ((x1.out.other (a := ⟨w.heap.size, 0, none⟩) (by simp) (.bool false)).other (a := ⟨w.heap.size, 1, none⟩) (by simp) (.slice none 0 0)).other (a := ⟨w.heap.size, 2, none⟩) (by simp) (.slice none 0 0)
    obtain ⟨p3, p4⟩ := set3 r1 false none none 0 0 0 0
    have p5 := ((p2.other (a := ⟨w.heap.size + 1, 0, none⟩) (by simp) (.bool false)).other (a := ⟨w.heap.size + 1, 1, none⟩) (by simp) (.slice none 0 0)).other (a := ⟨w.heap.size + 1, 2, none⟩) (by simp) (.slice none 0 0)
    have f0 := p5.drew.cell 0
    have f1 := p5.drew.cell 1
    have f2 := p5.drew.cell 2
    have g0 := p4.drew.cell 0
    have g1 := p4.drew.cell 1
    have g2 := p4.drew.cell 2
    simp at f0 f1 f2 g0 g1 g2
    go_wp2_with fail
    refine bodyPost_ret (v := .tuple #[.agg #[.bool false, .slice none 0 0, .slice none 0 0], .agg #[.bool false, .slice none 0 0, .slice none 0 0], .int .i64 x]) (by simp [results, Tryz.results41, go_sem, f0, f1, f2, g0, g1, g2]) rfl ⟨⟨false, none, 0, 0, none, 0, 0, false, none, 0, 0, none, 0, 0, by rw [if_neg (by rw [HXX.out]; exact H0.out), HXX.out], fun h1 => absurd (HXX.out.symm.trans h1) H0.out⟩, ?_⟩
    exact ((((((x2.out.setCell (Nat.le_refl _) _).setCell (Nat.le_refl _) _).setCell (Nat.le_refl _) _).setCell (Nat.le_succ _) _).setCell (Nat.le_succ _) _).setCell (Nat.le_succ _) _).drew

theorem dig_of {q : Rat} {K : Nat} (h1 : nDigits q.num.natAbs ≤ K) (h2 : nDigits q.den ≤ K) : Dig K q :=
  ⟨Nat.lt_of_lt_of_le (Go.Lib.lt_pow_nDigits _) (Nat.pow_le_pow_right (by omega) h1), Nat.lt_of_lt_of_le (Go.Lib.lt_pow_nDigits _) (Nat.pow_le_pow_right (by omega) h2)⟩
theorem dig_of_fits {q : Rat} (h : ¬ ovQ q) : Dig 4000 q := by
  unfold ovQ at h
  exact dig_of (by omega) (by omega)
theorem Dig.limbs {K L : Nat} {q : Rat} (h : Dig K q) (h0 : 0 < K) (hl : K ≤ 9 * L) : (limbs q.num.natAbs).length ≤ L ∧ (limbs q.den).length ≤ L :=
  ⟨limbs_digits (Nat.le_trans (nDigits_le h0 h.n) hl), limbs_digits (Nat.le_trans (nDigits_le h0 h.d) hl)⟩

/-- A walk of two texts and an operation. -/
def OpOk (F : Nat) (f : Rat → Rat → Rat) : Prop := ∀ (w : World) (v u : Value) (p q : Rat), IsQ .i64 w v p → IsQ .i64 w u q → Dig 4000 p → Dig 4000 q →
  Calls Tryz.prog F #[v, u] w fun e w' => RetQ .i64 (f p q) e w' ∧ Below w.heap.size w w'
theorem op_plus : OpOk 43 (· + ·) := fun w v u p q hp hq h1 h2 => by
  have l1 := h1.limbs (L := 100000) (by omega) (by omega)
  have l2 := h2.limbs (L := 100000) (by omega) (by omega)
  exact r2_Plus w v u p q hp hq l1.1 l1.2 l2.1 l2.2
theorem op_times : OpOk 44 (· * ·) := fun w v u p q hp hq h1 h2 => by
  have l1 := h1.limbs (L := 100000) (by omega) (by omega)
  have l2 := h2.limbs (L := 100000) (by omega) (by omega)
  exact r2_Times w v u p q hp hq l1.1 l1.2 l2.1 l2.2

set_option maxRecDepth 100000 in
set_option maxHeartbeats 1000000 in
theorem r2_Add (w : World) (s t : ByteArray) (hs : s.size ≤ 1000000) (ht : t.size ≤ 1000000) :
    Calls Tryz.prog 20 #[.string s, .string t] w fun e w' => e = .returned (.tuple #[.string (op2B (· + ·) s t), .int .i64 (op2E (· + ·) s t)]) ∧ Below w.heap.size w w' := by
  have R1 := fun V => hid (r2_two V s t hs ht)
  clear hs ht
  by_cases h0 : qE s = 0 ∧ qE t = 0
  · have eB : op2B (· + ·) s t = outB (vQ s + vQ t) := by rw [op2B, if_pos h0]
    have eE : op2E (· + ·) s t = outE (vQ s + vQ t) := by rw [op2E, if_pos h0.1, if_pos h0.2]
    rw [eB, eE]
    have ds := dig_of_fits (vQ_fits h0.1)
    have dt := dig_of_fits (vQ_fits h0.2)
    have dl := hid ((dig_add ds dt).limbs (L := 1000000) (by omega) (by omega))
    have HO := fun V v u hp hq => hid (op_plus V v u (vQ s) (vQ t) hp hq ds dt)
    have HW := fun V v h => hid (r2_Write V v (vQ s + vQ t) h dl.out.1 dl.out.2)
    obtain ⟨oB, hB⟩ : ∃ x, outB (vQ s + vQ t) = x := ⟨_, rfl⟩
    obtain ⟨oE, hE⟩ : ∃ x, outE (vQ s + vQ t) = x := ⟨_, rfl⟩
    rw [hB, hE] at HW
    rw [hB, hE]
    have H0 := hid h0
    clear eB eE ds dt dl hB hE h0
    go_enter Tryz.func20, Tryz.ntmps20
    go_wp2_with fail
    refine (R1 _).out.mono ?_; rintro e w1 ⟨⟨m, a, n, c, a', n', c', m2, b, j, d, b', j', d', rfl, hq⟩, hb1⟩
    obtain ⟨q1, q2⟩ := hq H0.out.1 H0.out.2
    rw [if_pos H0.out.1, H0.out.2]
    have b0 := ((Below.refl w1.heap.size w1).alloc (Nat.le_refl _) (.cells #[.bool m, .slice a n c, .slice a' n' c'] 51)).alloc (by simp) (.cells #[.bool m2, .slice b j d, .slice b' j' d'] 51)
    have y2 := hid (bnext hb1 b0)
    have H1 := HO _ _ _ (q1.call b0) (q2.call b0)
    clear hb1 q1 q2 hq b0 HO R1
    go_wp2_with fail
    refine H1.out.mono ?_; rintro e w2 ⟨⟨v, rfl, hv⟩, hb2⟩
    have y3 := hid (bnext y2.out hb2)
    have H2 := HW _ _ hv
    obtain ⟨m3, a3, n3, c3, a4, n4, c4, rfl⟩ := hv.qv
    clear hv hb2 HW H1
    go_wp2_with fail
    refine H2.out.mono ?_; rintro e w3 ⟨rfl, hb3⟩
    have y4 := hid (bnext y3.out hb3)
    clear hb3 H2
    go_wp2_with fail
    go_ret2
    exact ⟨rfl, y4.out⟩
  · have n0 : (if qE s = 0 then qE t else qE s) ≠ 0 := by
      split
      · rename_i h; exact fun e => h0 ⟨h, e⟩
      · rename_i h; exact h
    have eB : op2B (· + ·) s t = ⟨#[]⟩ := by rw [op2B, if_neg h0]
    have eE : op2E (· + ·) s t = if qE s = 0 then qE t else qE s := by
      rw [op2E]
      split
      · rename_i h; rw [if_neg (fun e => h0 ⟨h, e⟩)]
      · rfl
    rw [eB, eE]
    obtain ⟨x, hx⟩ : ∃ x, (if qE s = 0 then qE t else qE s) = x := ⟨_, rfl⟩
    rw [hx] at n0 ⊢
    have q0 : (x != 0) = true := by simpa using n0
    have HX := hid hx
    clear h0 n0 eB eE hx
    go_enter Tryz.func20, Tryz.ntmps20
    go_wp2_with fail
    refine (R1 _).out.mono ?_; rintro e w1 ⟨⟨m, a, n, c, a', n', c', m2, b, j, d, b', j', d', rfl, -⟩, hb1⟩
    rw [HX.out]
    have y1 := hid hb1
    have y2 := hid ((hb1.alloc hb1.size (.cells #[.bool m, .slice a n c, .slice a' n' c'] 51)).alloc (Nat.le_trans hb1.size (by simp)) (.cells #[.bool m2, .slice b j d, .slice b' j' d'] 51))
    clear hb1
    go_wp2_with fail
    go_ret2
    exact ⟨rfl, y2.out⟩

set_option maxRecDepth 100000 in
set_option maxHeartbeats 1000000 in
theorem r2_Mul (w : World) (s t : ByteArray) (hs : s.size ≤ 1000000) (ht : t.size ≤ 1000000) :
    Calls Tryz.prog 21 #[.string s, .string t] w fun e w' => e = .returned (.tuple #[.string (op2B (· * ·) s t), .int .i64 (op2E (· * ·) s t)]) ∧ Below w.heap.size w w' := by
  have R1 := fun V => hid (r2_two V s t hs ht)
  clear hs ht
  by_cases h0 : qE s = 0 ∧ qE t = 0
  · have eB : op2B (· * ·) s t = outB (vQ s * vQ t) := by rw [op2B, if_pos h0]
    have eE : op2E (· * ·) s t = outE (vQ s * vQ t) := by rw [op2E, if_pos h0.1, if_pos h0.2]
    rw [eB, eE]
    have ds := dig_of_fits (vQ_fits h0.1)
    have dt := dig_of_fits (vQ_fits h0.2)
    have dl := hid ((dig_mul ds dt).limbs (L := 1000000) (by omega) (by omega))
    have HO := fun V v u hp hq => hid (op_times V v u (vQ s) (vQ t) hp hq ds dt)
    have HW := fun V v h => hid (r2_Write V v (vQ s * vQ t) h dl.out.1 dl.out.2)
    obtain ⟨oB, hB⟩ : ∃ x, outB (vQ s * vQ t) = x := ⟨_, rfl⟩
    obtain ⟨oE, hE⟩ : ∃ x, outE (vQ s * vQ t) = x := ⟨_, rfl⟩
    rw [hB, hE] at HW
    rw [hB, hE]
    have H0 := hid h0
    clear eB eE ds dt dl hB hE h0
    go_enter Tryz.func21, Tryz.ntmps21
    go_wp2_with fail
    refine (R1 _).out.mono ?_; rintro e w1 ⟨⟨m, a, n, c, a', n', c', m2, b, j, d, b', j', d', rfl, hq⟩, hb1⟩
    obtain ⟨q1, q2⟩ := hq H0.out.1 H0.out.2
    rw [if_pos H0.out.1, H0.out.2]
    have b0 := ((Below.refl w1.heap.size w1).alloc (Nat.le_refl _) (.cells #[.bool m, .slice a n c, .slice a' n' c'] 51)).alloc (by simp) (.cells #[.bool m2, .slice b j d, .slice b' j' d'] 51)
    have y2 := hid (bnext hb1 b0)
    have H1 := HO _ _ _ (q1.call b0) (q2.call b0)
    clear hb1 q1 q2 hq b0 HO R1
    go_wp2_with fail
    refine H1.out.mono ?_; rintro e w2 ⟨⟨v, rfl, hv⟩, hb2⟩
    have y3 := hid (bnext y2.out hb2)
    have H2 := HW _ _ hv
    obtain ⟨m3, a3, n3, c3, a4, n4, c4, rfl⟩ := hv.qv
    clear hv hb2 HW H1
    go_wp2_with fail
    refine H2.out.mono ?_; rintro e w3 ⟨rfl, hb3⟩
    have y4 := hid (bnext y3.out hb3)
    clear hb3 H2
    go_wp2_with fail
    go_ret2
    exact ⟨rfl, y4.out⟩
  · have n0 : (if qE s = 0 then qE t else qE s) ≠ 0 := by
      split
      · rename_i h; exact fun e => h0 ⟨h, e⟩
      · rename_i h; exact h
    have eB : op2B (· * ·) s t = ⟨#[]⟩ := by rw [op2B, if_neg h0]
    have eE : op2E (· * ·) s t = if qE s = 0 then qE t else qE s := by
      rw [op2E]
      split
      · rename_i h; rw [if_neg (fun e => h0 ⟨h, e⟩)]
      · rfl
    rw [eB, eE]
    obtain ⟨x, hx⟩ : ∃ x, (if qE s = 0 then qE t else qE s) = x := ⟨_, rfl⟩
    rw [hx] at n0 ⊢
    have q0 : (x != 0) = true := by simpa using n0
    have HX := hid hx
    clear h0 n0 eB eE hx
    go_enter Tryz.func21, Tryz.ntmps21
    go_wp2_with fail
    refine (R1 _).out.mono ?_; rintro e w1 ⟨⟨m, a, n, c, a', n', c', m2, b, j, d, b', j', d', rfl, -⟩, hb1⟩
    rw [HX.out]
    have y1 := hid hb1
    have y2 := hid ((hb1.alloc hb1.size (.cells #[.bool m, .slice a n c, .slice a' n' c'] 51)).alloc (Nat.le_trans hb1.size (by simp)) (.cells #[.bool m2, .slice b j d, .slice b' j' d'] 51))
    clear hb1
    go_wp2_with fail
    go_ret2
    exact ⟨rfl, y2.out⟩
end Go.Proofs.YtikfgddgfddbaaaGreatDoor

/- The walk of GeomMass. -/
namespace Go.Proofs.YtikfgddgfddbaaaGreatDoor
open Go.RowKit Go.Shelf
open Go.Lib (decDigits nDigits)
set_option linter.unusedVariables false
set_option linter.unusedSimpArgs false

set_option maxRecDepth 100000 in
set_option maxHeartbeats 1000000 in
theorem gm_big (w : World) (a : ByteArray) (k : Int) (h : 20 < a.size ∨ (a.size ≤ 20 ∧ k < -40) ∨ (a.size ≤ 20 ∧ -40 ≤ k ∧ 40 < k)) (hL : Lay w) :
    Calls Tryz.prog 5 #[.string a, .int .i64 k] w fun e w' => e = .returned (.bool true) ∧ Below w.heap.size w w' := by
  have HV := fun V hV => hid (w_lives V hV)
  have HL := hid hL
  clear hL
  rcases h with h | ⟨h, h2⟩ | ⟨h, h2, h3⟩
  · have q0 : decide ((20 : Int) < (a.size : Int)) = true := by simp; omega
    clear h
    go_enter Tryz.func5, Tryz.ntmps5
    go_wp2_with fail
    refine (HV _ HL.out).out.mono ?_; rintro e w1 ⟨rfl, hb1⟩
    have b1 := hid hb1; clear hb1
    go_wp2_with fail
    go_ret
    exact ⟨rfl, b1.out⟩
  · have q0 : decide ((20 : Int) < (a.size : Int)) = false := by simp; omega
    have q1 : decide (k < -40) = true := by simpa using h2
    clear h h2
    go_enter Tryz.func5, Tryz.ntmps5
    go_wp2_with fail
    refine (HV _ HL.out).out.mono ?_; rintro e w1 ⟨rfl, hb1⟩
    have b1 := hid hb1; clear hb1
    go_wp2_with fail
    go_ret
    exact ⟨rfl, b1.out⟩
  · have q0 : decide ((20 : Int) < (a.size : Int)) = false := by simp; omega
    have q1 : decide (k < -40) = false := by simp; omega
    have q2 : decide (40 < k) = true := by simpa using h3
    clear h h2 h3
    go_enter Tryz.func5, Tryz.ntmps5
    go_wp2_with fail
    refine (HV _ HL.out).out.mono ?_; rintro e w1 ⟨rfl, hb1⟩
    have b1 := hid hb1; clear hb1
    go_wp2_with fail
    go_ret
    exact ⟨rfl, b1.out⟩

set_option maxRecDepth 100000 in
set_option maxHeartbeats 1000000 in
theorem gm_bad (w : World) (a : ByteArray) (k : Int) (ha : a.size ≤ 20) (h1 : -40 ≤ k) (h2 : k ≤ 40) (hg : gPE a ≠ 0) (hL : Lay w) :
    Calls Tryz.prog 5 #[.string a, .int .i64 k] w fun e w' => e = .returned (.bool true) ∧ Below w.heap.size w w' := by
  have HV := fun V hV => hid (w_lives V hV)
  have H1 := fun V hV => hid (g_OneMass V a k (by omega) hV)
  have H2 := fun V hV => hid (g_TwoMass V a k (by omega) hV)
  have H3 := fun V hV => hid (g_OneTail V a k (by omega) hV)
  have H4 := fun V hV => hid (g_TwoTail V a k (by omega) hV)
  rw [omB, omE, foB, foE, if_pos hg, if_pos hg] at H1
  rw [tmB, tmE, foB, foE, if_pos hg, if_pos hg] at H2
  rw [otB, otE, foB, foE, if_pos hg, if_pos hg] at H3
  rw [ttB, ttE, foB, foE, if_pos hg, if_pos hg] at H4
  obtain ⟨x, hx⟩ : ∃ x, gPE a = x := ⟨_, rfl⟩
  rw [hx] at H1 H2 H3 H4 hg
  have x0 : (x == 0) = false := by simpa using hg
  have x1 : (x != 0) = true := by simpa using hg
  have HL := hid hL
  have q0 : decide ((20 : Int) < (a.size : Int)) = false := by simp; omega
  have q1 : decide (k < -40) = false := by simp; omega
  have q2 : decide (40 < k) = false := by simp; omega
  clear hL hx ha h1 h2 hg
  go_enter Tryz.func5, Tryz.ntmps5
  go_wp2_with fail
  refine (HV _ HL.out).out.mono ?_; rintro e w1 ⟨rfl, hb1⟩
  have b1 := hid hb1; clear hb1
  go_wp2_with fail
  refine (H1 _ (HL.out.call b1.out)).out.mono ?_; rintro e w2 ⟨rfl, hb2⟩
  have b2 := hid (bnext b1.out hb2); clear hb2
  go_wp2_with fail
  refine (H2 _ (HL.out.call b2.out)).out.mono ?_; rintro e w3 ⟨rfl, hb3⟩
  have b3 := hid (bnext b2.out hb3); clear hb3
  go_wp2_with fail
  refine (H3 _ (HL.out.call b3.out)).out.mono ?_; rintro e w4 ⟨rfl, hb4⟩
  have b4 := hid (bnext b3.out hb4); clear hb4
  go_wp2_with fail
  refine (H4 _ (HL.out.call b4.out)).out.mono ?_; rintro e w5 ⟨rfl, hb5⟩
  have b5 := hid (bnext b4.out hb5); clear hb5
  go_wp2_with fail
  go_ret
  exact ⟨rfl, b5.out⟩

set_option maxRecDepth 100000 in
set_option maxHeartbeats 4000000 in
theorem gm_ok (w : World) (a : ByteArray) (k : Int) (ha : a.size ≤ 20) (h1 : -40 ≤ k) (h2 : k ≤ 40) (hg : gPE a = 0) (hL : Lay w) :
    Calls Tryz.prog 5 #[.string a, .int .i64 k] w fun e w' => e = .returned (.bool true) ∧ Below w.heap.size w w' := by
  have hS : ∀ j : Int, -41 ≤ j → j ≤ 41 → SmR a j := fun j l r => ⟨hg, ha, l, r⟩
  have hA := (hS 0 (by omega) (by omega))
  have hq := (ratio_is hg).1
  have h1A := one_plus (ratio_is hg).2.1
  have hdA := hA.dig
  -- the calls of the program
  have P1 := fun j (l : -41 ≤ j) (r : j ≤ 41) => om_sm (hS j l r)
  have P2 := fun j (l : -41 ≤ j) (r : j ≤ 41) => ot_sm (hS j l r)
  have P3 := fun j (l : -41 ≤ j) (r : j ≤ 41) => tm_sm (hS j l r)
  have P4 := fun j (l : -41 ≤ j) (r : j ≤ 41) => tt_sm (hS j l r)
  have C1 : ∀ j, -41 ≤ j → j ≤ 41 → ∀ V, Lay V → Hid (Calls Tryz.prog 12 #[.string a, .int .i64 j] V fun e w' => e = .returned (.tuple #[.string (txQ (OM (vQ a) j)), .int .i64 0]) ∧ Below V.heap.size V w') := by
    intro j l r V hV
    have := g_OneMass V a j (by omega) hV
    rw [(P1 j l r).1, (P1 j l r).2.1] at this
    exact this
  have C2 : ∀ j, -41 ≤ j → j ≤ 41 → ∀ V, Lay V → Hid (Calls Tryz.prog 16 #[.string a, .int .i64 j] V fun e w' => e = .returned (.tuple #[.string (txQ (OT (vQ a) j)), .int .i64 0]) ∧ Below V.heap.size V w') := by
    intro j l r V hV
    have := g_OneTail V a j (by omega) hV
    rw [(P2 j l r).1, (P2 j l r).2.1] at this
    exact this
  have C3 : ∀ j, -41 ≤ j → j ≤ 41 → ∀ V, Lay V → Hid (Calls Tryz.prog 14 #[.string a, .int .i64 j] V fun e w' => e = .returned (.tuple #[.string (txQ (TM (vQ a) j)), .int .i64 0]) ∧ Below V.heap.size V w') := by
    intro j l r V hV
    have := g_TwoMass V a j (by omega) hV
    rw [(P3 j l r).1, (P3 j l r).2.1] at this
    exact this
  have C4 : ∀ j, -41 ≤ j → j ≤ 41 → ∀ V, Lay V → Hid (Calls Tryz.prog 18 #[.string a, .int .i64 j] V fun e w' => e = .returned (.tuple #[.string (txQ (TT (vQ a) j)), .int .i64 0]) ∧ Below V.heap.size V w') := by
    intro j l r V hV
    have := g_TwoTail V a j (by omega) hV
    rw [(P4 j l r).1, (P4 j l r).2.1] at this
    exact this
  have szT : ∀ {q : Rat}, Dig 888 q → (txQ q).size ≤ 1000000 := fun h => Nat.le_trans (txQ_size (h.fits (by omega) (by omega))) (by omega)
  have CA : ∀ p q r, Dig 888 p → Dig 888 q → Dig 888 r → p + q = r → ∀ V, Hid (Calls Tryz.prog 20 #[.string (txQ p), .string (txQ q)] V fun e w' => e = .returned (.tuple #[.string (txQ r), .int .i64 0]) ∧ Below V.heap.size V w') := by
    intro p q r hp hq hr e V
    have := r2_Add V (txQ p) (txQ q) (szT hp) (szT hq)
    rw [(sum_sm hp hq hr e).1, (sum_sm hp hq hr e).2] at this
    exact this
  have CM : ∀ q r, Dig 888 q → vQ a * q = r → ∀ V, Hid (Calls Tryz.prog 21 #[.string a, .string (txQ q)] V fun e w' => e = .returned (.tuple #[.string (txQ r), .int .i64 0]) ∧ Below V.heap.size V w') := by
    intro q r hq' e V
    have := r2_Mul V a (txQ q) (by omega) (szT hq')
    rw [(mul_sm hq hdA hq' e).1, (mul_sm hq hdA hq' e).2] at this
    exact this
  have c1 := C1 k (by omega) (by omega)
  have c2 := C2 k (by omega) (by omega)
  have c3 := C2 (k + 1) (by omega) (by omega)
  have c4 := fun V => CA _ _ _ (P1 k (by omega) (by omega)).2.2 (P2 (k + 1) (by omega) (by omega)).2.2 (P2 k (by omega) (by omega)).2.2 (om_ot (vQ a) k) V
  have c5 := C2 0 (by omega) (by omega)
  have c6 := C3 k (by omega) (by omega)
  have c7 := C3 (-k) (by omega) (by omega)
  have c8 := C4 k (by omega) (by omega)
  have c9 := C4 (k + 1) (by omega) (by omega)
  have c10 := fun V => CA _ _ _ (P3 k (by omega) (by omega)).2.2 (P4 (k + 1) (by omega) (by omega)).2.2 (P4 k (by omega) (by omega)).2.2 (tm_tt h1A k) V
  have c11 := C3 (k + 1) (by omega) (by omega)
  have c12 := fun V => CM _ _ (P3 k (by omega) (by omega)).2.2 rfl V
  have c13 := fun V => CM _ _ (P3 (k + 1) (by omega) (by omega)).2.2 rfl V
  have c14 := C1 (k + 1) (by omega) (by omega)
  have c15 := fun V => CM _ _ (P1 k (by omega) (by omega)).2.2 rfl V
  rw [tm_neg] at c7
  rw [ot_zero, ← t1_tx, t1] at c5
  have E1 : 0 ≤ k → txQ (vQ a * TM (vQ a) k) = txQ (TM (vQ a) (k + 1)) := fun h => by rw [tm_up h]
  have E2 : k < 0 → txQ (vQ a * TM (vQ a) (k + 1)) = txQ (TM (vQ a) k) := fun h => by rw [tm_down h]
  have E3 : 0 ≤ k → txQ (vQ a * OM (vQ a) k) = txQ (OM (vQ a) (k + 1)) := fun h => by rw [om_up h]
  generalize txQ (vQ a * TM (vQ a) k) = bl at *
  generalize txQ (vQ a * TM (vQ a) (k + 1)) = bo at *
  generalize txQ (vQ a * OM (vQ a) k) = bd at *
  generalize txQ (OM (vQ a) k) = bx at *
  generalize txQ (OM (vQ a) (k + 1)) = bN' at *
  generalize txQ (OT (vQ a) k) = bt at *
  generalize txQ (OT (vQ a) (k + 1)) = bn at *
  generalize txQ (TM (vQ a) k) = bm at *
  generalize txQ (TM (vQ a) (k + 1)) = bM at *
  generalize txQ (TT (vQ a) k) = bT at *
  generalize txQ (TT (vQ a) (k + 1)) = bU at *
  have HV := fun V hV => hid (w_lives V hV)
  have HL := hid hL
  have q0 : decide ((20 : Int) < (a.size : Int)) = false := by simp; omega
  have q1 : decide (k < -40) = false := by simp; omega
  have q2 : decide (40 < k) = false := by simp; omega
  have w0 : IntKind.i64.wrap (k + 1) = k + 1 := by rw [IntWalk.i64_in _ ⟨by omega, by omega⟩]
  have w1 : IntKind.i64.wrap (-k) = -k := by rw [IntWalk.i64_in _ ⟨by omega, by omega⟩]
  clear hL P1 P2 P3 P4 C1 C2 C3 C4 CA CM szT hS hA hq h1A hdA ha h1 h2 hg
  by_cases hk : 0 ≤ k
  · have q3 : decide (0 ≤ k) = true := by simpa using hk
    have q4 : decide (k < 0) = false := by simp; omega
    obtain rfl := E1 hk
    obtain rfl := E3 hk
    clear hk E1 E2 E3
    go_enter Tryz.func5, Tryz.ntmps5
    go_wp2_with fail
    refine (HV _ HL.out).out.mono ?_; rintro e w1 ⟨rfl, hb1⟩
    have b1 := hid hb1; clear hb1
    go_wp2_with fail
    refine (c1 _ (HL.out.call b1.out)).out.mono ?_; rintro e w2 ⟨rfl, hb2⟩
    have b2 := hid (bnext b1.out hb2); clear hb2
    go_wp2_with fail
    refine (c2 _ (HL.out.call b2.out)).out.mono ?_; rintro e w3 ⟨rfl, hb3⟩
    have b3 := hid (bnext b2.out hb3); clear hb3
    go_wp2_with fail
    refine (c3 _ (HL.out.call b3.out)).out.mono ?_; rintro e w4 ⟨rfl, hb4⟩
    have b4 := hid (bnext b3.out hb4); clear hb4
    go_wp2_with fail
    refine (c4 _).out.mono ?_; rintro e w5 ⟨rfl, hb5⟩
    have b5 := hid (bnext b4.out hb5); clear hb5
    go_wp2_with fail
    refine (c5 _ (HL.out.call b5.out)).out.mono ?_; rintro e w6 ⟨rfl, hb6⟩
    have b6 := hid (bnext b5.out hb6); clear hb6
    go_wp2_with fail
    refine (c6 _ (HL.out.call b6.out)).out.mono ?_; rintro e w7 ⟨rfl, hb7⟩
    have b7 := hid (bnext b6.out hb7); clear hb7
    go_wp2_with fail
    refine (c7 _ (HL.out.call b7.out)).out.mono ?_; rintro e w8 ⟨rfl, hb8⟩
    have b8 := hid (bnext b7.out hb8); clear hb8
    go_wp2_with fail
    refine (c8 _ (HL.out.call b8.out)).out.mono ?_; rintro e w9 ⟨rfl, hb9⟩
    have b9 := hid (bnext b8.out hb9); clear hb9
    go_wp2_with fail
    refine (c9 _ (HL.out.call b9.out)).out.mono ?_; rintro e w10 ⟨rfl, hb10⟩
    have b10 := hid (bnext b9.out hb10); clear hb10
    go_wp2_with fail
    refine (c10 _).out.mono ?_; rintro e w11 ⟨rfl, hb11⟩
    have b11 := hid (bnext b10.out hb11); clear hb11
    go_wp2_with fail
    refine (c11 _ (HL.out.call b11.out)).out.mono ?_; rintro e w12 ⟨rfl, hb12⟩
    have b12 := hid (bnext b11.out hb12); clear hb12
    go_wp2_with fail
    refine (c12 _).out.mono ?_; rintro e w13 ⟨rfl, hb13⟩
    have b13 := hid (bnext b12.out hb13); clear hb13
    go_wp2_with fail
    refine (c13 _).out.mono ?_; rintro e w14 ⟨rfl, hb14⟩
    have b14 := hid (bnext b13.out hb14); clear hb14
    go_wp2_with fail
    refine (c14 _ (HL.out.call b14.out)).out.mono ?_; rintro e w15 ⟨rfl, hb15⟩
    have b15 := hid (bnext b14.out hb15); clear hb15
    go_wp2_with fail
    refine (c15 _).out.mono ?_; rintro e w16 ⟨rfl, hb16⟩
    have b16 := hid (bnext b15.out hb16); clear hb16
    go_wp2_with fail
    go_ret
    exact ⟨rfl, b16.out⟩
  · have q3 : decide (0 ≤ k) = false := by simp; omega
    have q4 : decide (k < 0) = true := by simp; omega
    obtain rfl := E2 (by omega)
    clear hk E1 E2 E3
    go_enter Tryz.func5, Tryz.ntmps5
    go_wp2_with fail
    refine (HV _ HL.out).out.mono ?_; rintro e w1 ⟨rfl, hb1⟩
    have b1 := hid hb1; clear hb1
    go_wp2_with fail
    refine (c1 _ (HL.out.call b1.out)).out.mono ?_; rintro e w2 ⟨rfl, hb2⟩
    have b2 := hid (bnext b1.out hb2); clear hb2
    go_wp2_with fail
    refine (c2 _ (HL.out.call b2.out)).out.mono ?_; rintro e w3 ⟨rfl, hb3⟩
    have b3 := hid (bnext b2.out hb3); clear hb3
    go_wp2_with fail
    refine (c3 _ (HL.out.call b3.out)).out.mono ?_; rintro e w4 ⟨rfl, hb4⟩
    have b4 := hid (bnext b3.out hb4); clear hb4
    go_wp2_with fail
    refine (c4 _).out.mono ?_; rintro e w5 ⟨rfl, hb5⟩
    have b5 := hid (bnext b4.out hb5); clear hb5
    go_wp2_with fail
    refine (c5 _ (HL.out.call b5.out)).out.mono ?_; rintro e w6 ⟨rfl, hb6⟩
    have b6 := hid (bnext b5.out hb6); clear hb6
    go_wp2_with fail
    refine (c6 _ (HL.out.call b6.out)).out.mono ?_; rintro e w7 ⟨rfl, hb7⟩
    have b7 := hid (bnext b6.out hb7); clear hb7
    go_wp2_with fail
    refine (c7 _ (HL.out.call b7.out)).out.mono ?_; rintro e w8 ⟨rfl, hb8⟩
    have b8 := hid (bnext b7.out hb8); clear hb8
    go_wp2_with fail
    refine (c8 _ (HL.out.call b8.out)).out.mono ?_; rintro e w9 ⟨rfl, hb9⟩
    have b9 := hid (bnext b8.out hb9); clear hb9
    go_wp2_with fail
    refine (c9 _ (HL.out.call b9.out)).out.mono ?_; rintro e w10 ⟨rfl, hb10⟩
    have b10 := hid (bnext b9.out hb10); clear hb10
    go_wp2_with fail
    refine (c10 _).out.mono ?_; rintro e w11 ⟨rfl, hb11⟩
    have b11 := hid (bnext b10.out hb11); clear hb11
    go_wp2_with fail
    refine (c11 _ (HL.out.call b11.out)).out.mono ?_; rintro e w12 ⟨rfl, hb12⟩
    have b12 := hid (bnext b11.out hb12); clear hb12
    go_wp2_with fail
    refine (c12 _).out.mono ?_; rintro e w13 ⟨rfl, hb13⟩
    have b13 := hid (bnext b12.out hb13); clear hb13
    go_wp2_with fail
    refine (c13 _).out.mono ?_; rintro e w14 ⟨rfl, hb14⟩
    have b14 := hid (bnext b13.out hb14); clear hb14
    go_wp2_with fail
    refine (c14 _ (HL.out.call b14.out)).out.mono ?_; rintro e w15 ⟨rfl, hb15⟩
    have b15 := hid (bnext b14.out hb15); clear hb15
    go_wp2_with fail
    refine (c15 _).out.mono ?_; rintro e w16 ⟨rfl, hb16⟩
    have b16 := hid (bnext b15.out hb16); clear hb16
    go_wp2_with fail
    go_ret
    exact ⟨rfl, b16.out⟩

theorem w_GeomMass (w : World) (a : ByteArray) (k : Int) (hL : Lay w) :
    Calls Tryz.prog 5 #[.string a, .int .i64 k] w fun e w' => e = .returned (.bool true) ∧ Below w.heap.size w w' := by
  by_cases ha : 20 < a.size
  · exact gm_big w a k (.inl ha) hL
  · by_cases h1 : k < -40
    · exact gm_big w a k (.inr (.inl ⟨by omega, h1⟩)) hL
    · by_cases h2 : 40 < k
      · exact gm_big w a k (.inr (.inr ⟨by omega, by omega, h2⟩)) hL
      · by_cases hg : gPE a = 0
        · exact gm_ok w a k (by omega) (by omega) (by omega) hg hL
        · exact gm_bad w a k (by omega) (by omega) (by omega) hg hL
end Go.Proofs.YtikfgddgfddbaaaGreatDoor

/- GeomMass: the row and the tied card: for every text and every integer the law answers true; conditions: none beyond the row's own. -/
namespace Go.Proofs.YtikfgddgfddbaaaGreatDoor
open Go.ChangeShapes Go.WideShapes Go.ChangeAt Go.RowKit
open Go.ChangeMaps (open_string shut_string)
set_option linter.unusedVariables false

set_option maxRecDepth 100000 in
set_option maxHeartbeats 1000000 in
theorem geomMass_lifted (os : Os) (started : os.Started) (H : Type) (enc : TypeId × Value → H) (F : Stop.Interp) :
    ReturnsInHanded {} Tryz.checked os 5 .any ((OpenSpec.ofChange Rows.geomMassSpec).preRow enc Tryz.prog Tryz.f5 Rows.geomMassRow.domain false Rows.geomMassRow.laid)
      (((OpenSpec.ofChange Rows.geomMassSpec).at F).post enc Tryz.prog Tryz.f5 false true false false) := by
  refine returnsInHanded_of_row (C := Tryz.checked) (s := OpenSpec.ofChange Rows.geomMassSpec) own started (by kernel_rfl) Tryz.func5
    (ChangeSpec.witness_shaped (enc := enc) (C := Tryz.checked) (os := os) (s := Rows.geomMassSpec) (conds := Rows.geomMassRow.domain) (fn := Tryz.f5) (X := fun w _ => laidMetH Tryz.prog Rows.geomMassRow.laid w) false (World.laidAll Tryz.prog os Rows.geomMassRow.laid) #[.string ByteArray.empty, .int .i64 0] 8 (World.laidAll_os _ _ _)
      (World.shaped_of_ZipB (by kernel_rfl) (by kernel_rfl)) (by kernel_rfl) (by kernel_rfl) (by kernel_rfl)
      (by rw [MakeChecks.laidMetH_plain _ _ _ (by kernel_rfl)]; exact laidMet_laidAll _ (by kernel_rfl) (by kernel_rfl))) ?_
  intro W base args ds gs before hval0 hW _ _ _ hL hsh _
  have hval : ∀ (j : Nat) t v, Tryz.f5.params[j]? = some t → args[j]? = some v → Value.okWide Tryz.prog W .any base t v := hval0
  have hW' := hW
  obtain ⟨p, q, hA0, hV, rfl, hfz, hnd⟩ := hW
  have hA : DataW.TrodAll enc Tryz.prog W 0 (fun _ => true) true Tryz.f5.params.toList args.toList ds p := hA0
  rw [Tryz.params5] at hA hval
  obtain ⟨v0, vs0, d0, ds0, p0, q0, hargs, rfl, rfl, h0, r0⟩ := trodAll_cons hA
  obtain ⟨v1, vs1, d1, ds1, p1, q1, rfl, rfl, rfl, h1, r1⟩ := trodAll_cons r0
  obtain ⟨rfl, rfl, rfl⟩ := trodAll_nil r1
  obtain rfl : args = #[v0, v1] := by cases args; simp_all
  obtain ⟨rfl, rfl⟩ := trodVars_none hV
  have k0 := h0
  have lt0 : ∀ x ∈ p0, x.block < W.heap.size := by obtain ⟨m, hm⟩ := k0; exact DataW.trod_lt m _ _ _ hm
  have k1 := h1
  have lt1 : ∀ x ∈ p1, x.block < W.heap.size := by obtain ⟨m, hm⟩ := k1; exact DataW.trod_lt m _ _ _ hm
  obtain ⟨a0, rfl, rfl, rfl, w0⟩ := open_string Tryz.underlying22 (hval 0 22 v0 rfl rfl) h0
  obtain ⟨a1, rfl, rfl, rfl, w1⟩ := open_int Tryz.underlying3 (hval 1 3 v1 rfl rfl) h1
  clear hA0 hval0
  refine (w_GeomMass W a0 a1 (lay_of hL hsh)).mono fun e W' ⟨he, bel⟩ => ?_
  subst he
  exact ⟨_, rfl, _, _, _, [], _, [], hW', trodAll_mk1 (shut_bool Tryz.underlying4 _), (trodAll_cons_mk (Below.trod laidOut (by kernel_rfl) (of_decide_eq_true (by kernel_rfl)) k0 bel lt0) (trodAll_cons_mk (Below.trod laidOut (by kernel_rfl) (of_decide_eq_true (by kernel_rfl)) k1 bel lt1) trodAll_mk0)), rfl, bel.frame _, fun h => by cases h⟩

theorem geomMass_holds : Rows.geomMassRow.holds Tryz.pinned (OpenSpec.ofChange Rows.geomMassSpec) :=
  OpenClaim.holds_of_cond 5 Tryz.f5 rfl rfl rfl rfl rfl rfl rfl ⟨rfl, rfl, rfl, rfl, rfl⟩ rfl rfl rfl rfl rfl (by kernel_rfl) Tryz.func5 (by kernel_rfl)
    (of_decide_eq_true (by kernel_rfl)) (by unfold Func.isWrapper; first | (rw [if_pos (by decide +kernel)]; kernel_rfl) | (rw [if_neg (by decide +kernel)]; exact ⟨rfl, rfl⟩))
    (fun os started H enc _ F0 => by rw [OpenClaim.pre_eq_preRow]; exact geomMass_lifted os started H enc F0)

theorem geomMass_card : Rows.GeomMassCardSaid :=
  Claim7.holds_tied_plain_at .later [] [.data, .data, .data, .data, .sentinel, .sentinel, .pinned] true Rows.geomMassCard.stood.harness true
    geomMass_holds (fun _ h => by cases h) (by kernel_rfl) (fun _ h => by cases h) geomMass_row_tie rfl ⟨rfl, rfl⟩ (by kernel_rfl) rfl
    (fun f fn hf hfn => by
      obtain rfl : f = 5 := Option.some.inj ((show Tryz.prog.funcNamed "privhouse/privhouselaw06.GeomMass" = some 5 by kernel_rfl).symm.trans hf) |>.symm
      obtain rfl : fn = Tryz.f5 := (Option.some.inj (Tryz.func5.symm.trans hfn)).symm
      exact ⟨by kernel_rfl, fun j t ht => by
        rw [Tryz.params5] at ht
        have hm : t ∈ [22, 3] := by simpa using Array.mem_of_getElem? ht
        have hall : ([22, 3].all fun u => !Tryz.prog.wantsStandIn u) = true := by kernel_rfl
        exact (show Tryz.prog.wantsStandIn t = false by simpa using List.all_eq_true.1 hall t hm)⟩)
    (by kernel_rfl)
#print axioms geomMass_card
end Go.Proofs.YtikfgddgfddbaaaGreatDoor
