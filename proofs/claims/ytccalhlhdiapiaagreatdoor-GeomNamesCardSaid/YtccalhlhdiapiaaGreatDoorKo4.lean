/- Texts that the proof rests on, merged: L9, L10, L11, G2, QD, G3, G4, G5, C1, C2h, C2, Tx, Coin2, Coins, Ser, Cv3, Cv4, Tot2, Cv5. -/
import Derived.Test.YtccalhlhdiapiaaGreatDoorKo3
import Derived.Deep.RegionHeld3
namespace Go.Proofs.YtccalhlhdiapiaaGreatDoor
open Go.RowKit Go.Shelf
set_option linter.unusedVariables false
attribute [local go_sem] Oper.semAt_some
theorem l_divmod_less (w : World) (v u : Value) (a b : Nat) (ha : IsN .u64 w v a) (hb : IsN .u64 w u b) (hlt : a < b) (hla : (limbs a).length ≤ 1000000) :
    Calls Tryz.prog 165 #[v, u] w fun e w' => RetNN .u64 (a / b) (a % b) e w' ∧ Below w.heap.size w w' := by
  have HA := hid ha; have HB := hid hb; have HL := hid (ordN_lt hlt); have HQ := hid (Nat.div_eq_of_lt hlt); have HR := hid (Nat.mod_eq_of_lt hlt); have HLA := hid hla
  obtain ⟨a1, c1, rfl, _⟩ := ha.openI
  obtain ⟨a2, c2, rfl, _⟩ := hb.openI
  clear ha hb hlt hla
  go_enter Tryz.func165, Tryz.ntmps165
  go_wp2_with fail
  refine (l_Cmp _ _ _ a b HA.out HB.out HLA.out).mono ?_; rintro e w1 ⟨rfl, hb1⟩
  have B1 := hid hb1; clear hb1
  rw [HL.out]
  go_wp2_with fail
  go_ret2
  exact ⟨⟨_, _, rfl, by rw [HQ.out]; exact IsN.zero _ _, by rw [HR.out]; exact HA.out.call B1.out⟩, B1.out⟩
theorem ordN_ge {a b : Nat} (h : b ≤ a) : ordN a b = 0 ∨ ordN a b = 1 := by
  unfold ordN; split
  · omega
  · split <;> simp
set_option maxRecDepth 100000 in
set_option maxHeartbeats 2000000 in
theorem l_divmod_one (w : World) (v u : Value) (a b : Nat) (ha : IsN .u64 w v a) (hb : IsN .u64 w u b) (hle : b ≤ a) (h0 : 0 < b) (h1 : b < 1000000000) (hla : (limbs a).length ≤ 1000000) :
    Calls Tryz.prog 165 #[v, u] w fun e w' => RetNN .u64 (a / b) (a % b) e w' ∧ Below w.heap.size w w' := by
  have HA := hid ha; have HB := hid hb; have HLA := hid hla
  have hord := ordN_ge hle
  obtain ⟨a1, c1, rfl, h1', _⟩ := ha.openI
  obtain ⟨a2, c2, rfl, h2', h3', h4'⟩ := hb.openI
  have hl1 : limbs b = [b] := limbs_small h0 h1
  obtain ⟨g, o, rfl, hg, hc⟩ := h4' 0 b (by rw [hl1]; rfl)
  rw [Nat.add_zero] at hc
  have HC := hid hc
  have hlen : (limbs b).length = 1 := by rw [hl1]; rfl
  rw [hlen] at HB h2' ⊢
  clear ha hb hc h4' hl1 hlen hla
  go_enter Tryz.func165, Tryz.ntmps165
  go_wp2_with fail
  refine (l_Cmp _ _ _ a b HA.out HB.out HLA.out).mono ?_; rintro e w1 ⟨rfl, hb1⟩
  have d1 := (hb1.cell (p := ⟨g, o, none⟩) hg).trans HC.out
  have B1 := hid hb1; clear hb1
  obtain ⟨t, ht⟩ : ∃ t, ordN a b = t := ⟨_, rfl⟩
  rw [ht] at hord ⊢
  have q0 : decide (t < 0) = false := by simp; omega
  clear ht hord
  go_wp2_with fail
  refine (l_small _ _ a b (HA.out.call B1.out) h0 h1 HLA.out).mono ?_; rintro e w2 ⟨⟨v2, rfl, hv2⟩, hb2⟩
  have B2 := hid hb2; have V2 := hid hv2; clear hb2 hv2
  have hrb := hid (show a % b < 18446744073709551616 from Nat.lt_trans (Nat.mod_lt a h0) (by omega))
  go_wp2_with fail
  refine (l_Of _ (a % b) hrb.out).mono ?_
  rintro e w3 ⟨⟨v3, rfl, hv3⟩, hb3⟩
  have V3 := hid hv3; have B3 := hid hb3; clear hv3 hb3
  go_wp2_with fail
  go_ret2
  exact ⟨⟨_, _, rfl, V2.out.call B3.out, V3.out⟩, bnext (bnext B1.out B2.out) B3.out⟩
/-- What a round keeps: the block bs; block g goes on being an array of K limbs. -/
def KpQ (bs g K : Nat) (W W2 : World) : Prop := W2.heap[bs]? = W.heap[bs]? ∧ ((∃ Q, Arr .u64 147 W g Q ∧ Q.length = K) → ∃ Q, Arr .u64 147 W2 g Q ∧ Q.length = K)
theorem KpQ.refl (bs g K : Nat) (W : World) : KpQ bs g K W W := ⟨rfl, fun h => h⟩
theorem KpQ.trans {bs g K : Nat} {A B C : World} (h : KpQ bs g K A B) (k : KpQ bs g K B C) : KpQ bs g K A C := ⟨k.1.trans h.1, fun x => k.2 (h.2 x)⟩
theorem KpQ.put {bs g K : Nat} {w : World} (hb : bs < w.heap.size) (W : World) (l : Nat) (o o' : Obj) (hl : w.heap.size ≤ l) (h : W.heap[l]? = some o) (h1 : o.isCells = false) (h2 : o.isWalk = false) : KpQ bs g K W (W.putObj l o') :=
  ⟨World.putObj_heap_other (by omega), fun ⟨Q, hq, hq2⟩ => ⟨Q, Blk.kept hq (grownBy_putObj' W l o') (fun r e => by cases e; exact ⟨_, h, h1⟩), hq2⟩⟩
theorem top_zero {a b d A m : Nat} (hA : (limbs (a * d)).length = A) (hm : m ≤ A + 1) (h0 : 0 < m) (hb : 1000000000 ^ (m - 1) ≤ b) (hd : 0 < d) : val ((limbs (a * d) ++ [0]).drop (A + 1 - m)) < b * d := by
  rw [List.drop_append_of_le_length (by omega), val_append]
  have h1 := val_lt ((sm_limbs (a * d)).drop (A + 1 - m))
  rw [List.length_drop, hA, show A - (A + 1 - m) = m - 1 by omega] at h1
  simp only [val_cons, val_nil]
  have h2 : b ≤ b * d := Nat.le_mul_of_pos_right b hd
  omega
theorem own_nextA {k : IntKind} {w wr w3 : World} {t : TypeId} {v v3 : Value} {s : List Nat} {z A : Nat} {o : Obj} (hl : s.length = A) (hO : wr.ownsRow w.heap.size t 1 v A (ints k s)) (hB : Below w.heap.size w wr)
    (h3 : w3.ownsRow w.heap.size t 1 v3 (A + 1) (ints k s ++ [.int k (z : Int)])) (hg : (wr.alloc o).grownBy w3 v.ownBlock) :
    w3.ownsRow w.heap.size t 1 v3 (s ++ [z]).length (ints k (s ++ [z])) ∧ Below w.heap.size w w3 := by
  subst hl
  exact own_next hO hB h3 hg
theorem mul_lim {a d L : Nat} (hL : (limbs a).length = L) (hd : d < 1000000000) : a * d < 1000000000 ^ (L + 1) := by
  have h := limbs_length_le.1 (Nat.le_of_eq hL)
  rw [Nat.pow_succ]
  exact Nat.lt_of_le_of_lt (Nat.mul_le_mul_left a (Nat.le_of_lt hd)) (Nat.mul_lt_mul_of_pos_right h (by omega))
set_option maxRecDepth 100000 in
set_option maxHeartbeats 8000000 in
theorem l_divmod_many (w : World) (v u : Value) (a b m : Nat) (ha : IsN .u64 w v a) (hb : IsN .u64 w u b) (hle : b ≤ a) (hn : (limbs b).length = m) (hm2 : 2 ≤ m) (hla : (limbs a).length ≤ 1000000) :
    Calls Tryz.prog 165 #[v, u] w fun e w' => RetNN .u64 (a / b) (a % b) e w' ∧ Below w.heap.size w w' := by
  obtain ⟨i0, hi, hz0, hz1, hz2⟩ := info_parts info_u64
  have HA := hid ha; have HB := hid hb
  have hord := ordN_ge hle
  have hmn := limbs_length_mono hle
  obtain ⟨a1, c1, rfl, h1', _⟩ := ha.openI
  obtain ⟨a2, c2, rfl, h2', h3', h4'⟩ := hb.openI
  obtain ⟨x, hx⟩ : ∃ x, (limbs b)[m - 1]? = some x := ⟨_, List.getElem?_eq_getElem (by omega)⟩
  obtain ⟨g, o, rfl, hg, hc⟩ := h4' (m - 1) x hx
  have HC := hid hc
  have hn1 : (limbs b).length = (m - 1) + 1 := by omega
  obtain ⟨s1, s2, s3⟩ := scale_len hn1 hx
  obtain ⟨t1, t2, _⟩ := top_limb hn1 hx
  obtain ⟨d, hd⟩ : ∃ d, 1000000000 / (x + 1) = d := ⟨_, rfl⟩
  rw [hd] at s1 s2 s3
  have HS := hid (show (limbs (b * d)).length = m by omega)
  have hdI := hid (show ((1000000000 : Int) / ((x : Int) + 1)) = (d : Int) from by rw [← hd]; rfl)
  rw [hn] at h2' hmn ⊢
  obtain ⟨L, hL⟩ : ∃ L, (limbs a).length = L := ⟨_, rfl⟩
  rw [hL] at hmn h1' ⊢
  have hla' : L ≤ 1000000 := by omega
  have hL' := hL; have HL := hid hL; have HN := hid hn; have HLA := hid hla; have HLE := hid hle
  rw [hL] at HA; rw [hn] at HB
  clear ha hb hc h4' hx hd s1 hL hn hla hle hn1
  refine (callsIn_wide (n := 9)).1 ?_
  refine callsIn_of_wp_marks Tryz.func165 rfl trivial ?_ rfl
  simp only [Tryz.ntmps165, List.size_toArray, List.length_cons, List.length_nil, Nat.reduceAdd, Nat.reduceSub, Array.replicate_succ, Array.replicate_zero, List.push_toArray, List.append_toArray, List.nil_append, List.cons_append]
  gi_wp2_with fail
  refine ⟨trivial, (callsIn_wide.2 (l_Cmp _ _ _ a b HA.out HB.out HLA.out)).mono ?_⟩; rintro e w1 ⟨rfl, hb1⟩
  have d1 := (hb1.cell (p := ⟨g, o + (m - 1), none⟩) hg).trans HC.out
  have B1 := hid hb1; clear hb1
  obtain ⟨t, ht⟩ : ∃ t, ordN a b = t := ⟨_, rfl⟩
  rw [ht] at hord ⊢
  have q0 : decide (t < 0) = false := by simp; omega
  clear ht hord
  have q1 : ((m : Int) == 1) = false := by simp; omega
  gi_wp2_with fail
  clear q1
  rw [hdI.out]
  obtain ⟨W1, hW1⟩ : ∃ W1, w1.alloc (.cells #[.int .u64 (d : Int)] 147) = W1 := ⟨_, rfl⟩
  have BW1 := hid (show Below w.heap.size w W1 from by rw [← hW1]; exact B1.out.alloc B1.out.size _)
  have SB := hid (show Blk W1 w1.heap.size #[.int .u64 (d : Int)] 147 from by rw [← hW1]; exact Blk.new _ _ _)
  have hsz := hid (show w1.heap.size < W1.heap.size from SB.out.lt)
  have SC := hid (show IsN .u64 W1 (.slice (some ⟨w1.heap.size, 0, none⟩) 1 1) d from by
    unfold IsN
    rw [limbs_small s2 s3]
    exact Row.of_blk (n := 1) (c := 1) SB.out rfl (by unfold maxLen; omega) (fun i x hx => by simpa [ints] using hx) (Nat.le_refl _) (by unfold maxLen; omega))
  have SL := hid (show (limbs d).length ≤ 1000000 from by rw [limbs_small s2 s3]; simp)
  rw [hW1]
  clear hW1 d1
  refine ⟨trivial, (callsIn_wide.2 (l_Mul_own W1 _ _ a d (HA.out.call BW1.out) SC.out HLA.out SL.out)).mono ?_⟩; rintro e w2 ⟨⟨vm, rfl, hown⟩, hb2⟩
  obtain ⟨A, hA⟩ : ∃ A, (limbs (a * d)).length = A := ⟨_, rfl⟩
  have hAL : L ≤ A := by rw [← hL', ← hA]; exact limbs_length_mono (Nat.le_mul_of_pos_right a s2)
  have hAU : A ≤ L + 1 := by rw [← hA]; exact limbs_length_le.2 (mul_lim hL' s3)
  have HAD := hid hA
  rw [hA] at hown
  have O2 := hid hown; have B2 := hid hb2
  obtain ⟨am, cm, rfl⟩ := owns_ex hown
  clear hown hb2 hA
  gi_wp2_with (gi_at_builtin; refine wpListIn_append_own _ rfl _ _ 119 rfl W1.heap.size 147 i0 (.int .u64 0) 1 8 Tryz.underlying119 hi hz0 hz1 hz2 rfl (by decide) _ A _ rfl (O2.out.alloc _) ⟨w2.heap.size, 0, none⟩ 1 1 [.int .u64 0] rfl rfl (cell_one_new w2 (.int .u64 0) 147) (by simp [Value.oneCell']) (by unfold maxLen; omega) (by omega) (by have := B2.out.size; simp; omega) ?_; intro v' w3 hown3 hgrow3 _; have HO3 := hid hown3; have HG3 := hid hgrow3; clear hown3 hgrow3)
  obtain ⟨n1, n2⟩ := own_nextA (w := W1) (v := .slice am A cm) (s := limbs (a * d)) (z := 0) HAD.out O2.out B2.out HO3.out HG3.out
  obtain ⟨us, hus⟩ : ∃ us, limbs (a * d) ++ [0] = us := ⟨_, rfl⟩
  rw [hus] at n1
  have hul : us.length = A + 1 := by rw [← hus, List.length_append, HAD.out]; rfl
  obtain ⟨gu, cu, rfl, hgu, hcu, hcum, hPU⟩ := ArrP.of_owns n1 (by omega)
  have HUS := hid hus; have HUL := hid hul; have PU3 := hid hPU; have BW3 := hid (show Below W1.heap.size W1 w3 from n2); have BX3 := hid (bnext BW1.out n2)
  have hgul := hPU.lt
  rw [hul]
  rw [hul] at hcu
  clear n1 n2 hus hul hPU O2 HO3 HG3
  refine ⟨trivial, (callsIn_wide.2 (l_Mul_own w3 _ _ b d (HB.out.call BX3.out) (SC.out.call BW3.out) (by rw [HN.out]; omega) SL.out)).mono ?_⟩; rintro e w4 ⟨⟨vv, rfl, hvv⟩, hb4⟩
  obtain ⟨gv, cv, rfl, hgv, hcv, hcvm, hPV⟩ := ArrP.of_owns hvv (by rw [HS.out]; omega)
  have B4 := hid hb4; have BX4 := hid (bnext BX3.out hb4); have PV4 := hid hPV
  have hgvl := hPV.lt
  rw [HS.out] at hcv ⊢
  clear hvv hb4 hPV
  have qL : decide (A + 1 ≤ L) = false := by simp; omega
  gi_wp2_with fail
  obtain ⟨W5, hW5⟩ : ∃ W5, (w4.alloc (.cells #[.slice (some ⟨gu, 0, none⟩) (A + 1) cu] 119)).alloc (.cells #[.slice (some ⟨gv, 0, none⟩) m cv] 119) = W5 := ⟨_, rfl⟩
  have y9 : Blk W5 w4.heap.size #[.slice (some ⟨gu, 0, none⟩) (A + 1) cu] 119 := by rw [← hW5]; exact (Blk.new w4 _ _).alloc _
  have y10 : Blk W5 (w4.heap.size + 1) #[.slice (some ⟨gv, 0, none⟩) m cv] 119 := by rw [← hW5]; exact Blk.made _ _ _ (by simp)
  have B5 : Below w4.heap.size w4 W5 := by rw [← hW5]; exact ((Below.refl _ _).alloc (Nat.le_refl _) _).alloc (by simp) _
  have z5 : W5.heap.size = w4.heap.size + 2 := by rw [← hW5]; simp
  have b9 := y9.cell 0
  have b10 := y10.cell 0
  simp only [List.getElem?_toArray, List.getElem?_cons_zero] at b9 b10
  have l9 : w4.heap.size < W5.heap.size := by omega
  have l10 : w4.heap.size + 1 < W5.heap.size := by omega
  have Y9 := hid y9; have Y10 := hid y10; have HB5 := hid B5; have Z5 := hid z5
  obtain ⟨K, hK⟩ : ∃ K, K = A + 1 - m := ⟨_, rfl⟩
  have hKI : ((A : Int) + 1 - (m : Int)) = (K : Int) := by omega
  have hKL : K + m = A + 1 := by omega
  have hmk := fun W => make_nat K (by omega) W
  rw [hW5]
  clear hW5 y9 y10 B5 z5 hK
  gi_loopw [52] (fun _ wr => wr = W5) (fun _ _ => 0)
  case atStart => rfl
  case round =>
    obtain rfl := hrel
    gi_wp2_with fail
    have HMN := hid hmn
    refine ⟨trivial, (callsIn_wide.2 (back_call _ _ _ _)).mono ?_⟩; rintro e w' ⟨rfl, rfl⟩
    gi_wp2_with fail
    obtain ⟨W0, hW0⟩ : ∃ W0, (((wr.alloc (.cells #[.int .i64 m] 3)).alloc (.cells (madeCells #[.int .u64 0] K) 147)).alloc (.cells #[.slice (some ⟨wr.heap.size + 1, 0, none⟩) K K] 119)).alloc (.cells #[.slice (some ⟨wr.heap.size + 1, 0, none⟩) K K] 119) = W0 := ⟨_, rfl⟩
    have y11 : Blk W0 wr.heap.size #[.int .i64 m] 3 := by rw [← hW0]; exact (((Blk.new wr _ _).alloc _).alloc _).alloc _
    have y12 : Blk W0 (wr.heap.size + 1 + 1) #[.slice (some ⟨wr.heap.size + 1, 0, none⟩) K K] 119 := by rw [← hW0]; exact (Blk.made _ _ _ (by simp)).alloc _
    have y13 : Blk W0 (wr.heap.size + 1 + 1 + 1) #[.slice (some ⟨wr.heap.size + 1, 0, none⟩) K K] 119 := by rw [← hW0]; exact Blk.made _ _ _ (by simp)
    have yq : Arr .u64 147 W0 (wr.heap.size + 1) (List.replicate K 0) := by
      rw [← hW0]
      have := Arr.made (wr.alloc (.cells #[.int .i64 m] 3)) .u64 147 K
      rw [World.size_alloc] at this
      exact (Blk.alloc this _).alloc _
    have B0 : Below wr.heap.size wr W0 := by rw [← hW0]; exact ((((Below.refl _ _).alloc (Nat.le_refl _) _).alloc (by simp) _).alloc (by simp; omega) _).alloc (by simp; omega) _
    have z0 : W0.heap.size = wr.heap.size + 4 := by rw [← hW0]; simp
    have BX0 := hid (bnext (bnext BX4.out HB5.out) B0)
    have PU0 := hid (((PU3.out.call B4.out).call HB5.out).call B0)
    have V0 := hid ((PV4.out.call HB5.out).call B0)
    have S0 := hid ((((SB.out.call BW3.out).call B4.out).call HB5.out).call B0)
    have Y9' := hid (Y9.out.call B0); have Y10' := hid (Y10.out.call B0)
    rw [hW0]
    have Y11 := hid y11; have Y12 := hid y12; have Y13 := hid y13; have YQ := hid yq; have Z0 := hid z0
    have hw3 := B4.out.size; have hw1 := BW1.out.size; have hw13 := BW3.out.size
    clear hW0 y11 y12 y13 yq B0 z0 l9 l10 b9 b10 hmk hKI
    have i5 : w4.heap.size + 2 ≤ wr.heap.size := by have := Z5.out; omega
    have i0' : wr.heap.size + 4 ≤ W0.heap.size := by have := Z0.out; omega
    refine range_ok (by omega) (gf := 194) (lb := #[.pointer (some ⟨wr.heap.size + 1 + 1 + 1, 0, none⟩)]) rfl (enters_of Tryz.func194 (by kernel_rfl) rfl)
      (back_feeds (Kp := KpQ (wr.heap.size + 1 + 1 + 1) (wr.heap.size + 1) K) (V := fun _ _ => True) 8 (by omega) _ K K (some ⟨wr.heap.size + 1, 0, none⟩) (by omega) (Nat.le_refl _) W0 (KpQ.refl _ _ _) KpQ.trans (fun W1 W2 b1 b2 => ?hread)) KpQ.trans (KpQ.put (by omega)) (Below.refl _ _) (fun _ => rfl)
      (fun pre W => (∃ o Q, DivI (a * d) (b * d) m (A + 1) (K - pre.length) o Q ∧ ArrP .u64 147 W gu o ∧ Arr .u64 147 W (wr.heap.size + 1) Q) ∧ Keep2 W0 W gu (some (wr.heap.size + 1)))
      (fun c pre W => False)
      (fun s A B row hs hg hr => ⟨by
        obtain ⟨o, Q, h1, h2, h3⟩ := hs.1
        obtain ⟨cs, h2a, h2b⟩ := h2
        exact ⟨o, Q, h1, ⟨cs, h2a.kept hg (fun r e => (hr r e).2), h2b⟩, Blk.kept h3 hg (fun r e => (hr r e).2)⟩, hs.2.grown hg (fun k e => .inr (.inr (hr k e).1))⟩)
      (fun c s A B row hs hg hr => hs)
      ⟨⟨us, _, ?start, PU0.out, YQ.out⟩, Keep2.refl _ _ _⟩ ?act ?assign ?body ?done ?stop
    case hread =>
      obtain ⟨Q, hq, hql⟩ := b2.2 ⟨_, YQ.out.call b1, by simp⟩
      refine ⟨?_, fun i hi => ?_⟩
      · have h1 : Blk W2 (wr.heap.size + 1 + 1 + 1) #[.slice (some ⟨wr.heap.size + 1, 0, none⟩) K K] 119 := b2.1.trans (Y13.out.call b1)
        exact h1.cell 0
      · exact ⟨_, 0, _, rfl, by rw [Nat.zero_add]; exact hq.cell (List.getElem?_eq_getElem (by omega)), trivial⟩
    case start =>
      have h1 : 1000000000 ^ (m - 1) ≤ b := limbs_lt_length.1 (by rw [HN.out]; omega)
      have h2 : b * d ≤ 1000000000 ^ m := Nat.le_of_lt (limbs_length_le.1 (by rw [HS.out]; exact Nat.le_refl _))
      have hsu : Sm us := by rw [← HUS.out]; exact (sm_limbs _).append (Sm.cons (by omega) Sm.nil)
      have hvu : val us = a * d := by rw [← HUS.out, val_append, val_limbs]; simp [val_cons]
      have := DivI.start (U := a * d) (V := b * d) (n := m) (L := A + 1) h2 hsu HUL.out (by omega) hvu (by
        rw [← HUS.out]
        exact top_zero HAD.out (by omega) (by omega) h1 s2)
      rw [show A + 1 - m = K by omega] at this
      simpa using this
    case assign =>
      intro l x W KK hK
      gi_wp2
      exact hK
    case stop =>
      rintro D c pre W hD - h
      exact h.elim
    case done =>
      rintro D xs W hD hx ⟨⟨o2, Q, hDI, hU, hQ⟩, hKp⟩ hK
      rw [hx, Nat.sub_self] at hDI
      obtain ⟨r1, r2, r3⟩ := hDI.done (by omega)
      have hfin := hid (div_end (a := a) (b := b) s2 r1 r2)
      have R3 := hid r3
      have hlen := hid (show (limbs (val (o2.take m))).length ≤ 1000000 from by
        rw [r3]
        have := limbs_length_mono (Nat.le_of_lt r2)
        rw [HS.out] at this
        omega)
      have hol := hid hDI.lo
      have hql := hid (show Q.length = K from by rw [hDI.lq]; omega)
      have k9 := hKp.blk Y9'.out (by omega) (by simp; omega)
      have k11 := hKp.blk Y11.out (by omega) (by simp)
      have k12 := hKp.blk Y12.out (by omega) (by simp)
      have ks := hKp.blk S0.out (by have := hsz.out; omega) (by have := hsz.out; simp; omega)
      have c9 := k9.cell 0
      have c11 := k11.cell 0
      have c12 := k12.cell 0
      have cs0 := ks.cell 0
      simp only [List.getElem?_toArray, List.getElem?_cons_zero] at c9 c11 c12 cs0
      have ru := hid (show Row W (.slice (some ⟨gu, 0, none⟩) m cu) (ints .u64 (o2.take m)) from hU.row (by rw [hol.out]; omega) (by omega) hcum)
      have smu := hid (hDI.so.take m); have smq := hid hDI.sq
      have HQ := hid hQ; have HKP := hid hKp; have HK := hid hK
      have BW := hid (show Below w.heap.size w W from BX0.out.trans (hKp.below (B := w.heap.size) (by omega) (by omega) (fun x e => by injection e; omega)))
      have f1 : (m : Int) ≤ (cu : Int) := by omega
      clear hx hDI r1 r2 r3 k9 k11 k12 ks hU hQ hKp hK
      have htr : Calls Tryz.prog 158 #[.slice (some ⟨gu, 0, none⟩) m cu] W.drew fun e w' => e = .returned (.slice (some ⟨gu, 0, none⟩) (limbs (val o2)).length cu) ∧ w' = W.drew := by
        have := l_trim_to W.drew (some ⟨gu, 0, none⟩) cu (o2.take m) smu.out (by rw [List.length_take_of_le (by rw [hol.out]; omega)]; exact ru.out.drew)
        rwa [List.length_take_of_le (by rw [hol.out]; omega), R3.out] at this
      have hin := hid (show IsN .u64 W.drew (.slice (some ⟨gu, 0, none⟩) (limbs (val o2)).length cu) (val o2) from by
        have := trim_isN (c := cu) (a := some ⟨gu, 0, none⟩) smu.out (by rw [List.length_take_of_le (by rw [hol.out]; omega)]; exact ru.out.drew)
        rwa [R3.out] at this)
      have hlen2 := hid (show (limbs (val o2)).length ≤ 1000000 from by have := hlen.out; rwa [R3.out] at this)
      have HTR := hid htr; clear htr
      gi_wp2
      refine wpIn_wide.2 ?_
      go_region_held3 (fun w' => w'.cell? ⟨w4.heap.size, 0, none⟩ = some (.slice (some ⟨gu, 0, none⟩) (A + 1) cu) ∧ w'.cell? ⟨wr.heap.size, 0, none⟩ = some (.int .i64 (m : Int)) ∧ w'.cell? ⟨w1.heap.size, 0, none⟩ = some (.int .u64 (d : Int)))
        (first
          | exact ⟨c9, c11, cs0⟩
          | exact ⟨(B6.out.cell (p := ⟨_, _, _⟩) (cell_lt (a := ⟨w4.heap.size, 0, none⟩) c9)).trans c9, (B6.out.cell (p := ⟨_, _, _⟩) (cell_lt (a := ⟨wr.heap.size, 0, none⟩) c11)).trans c11, (B6.out.cell (p := ⟨_, _, _⟩) (cell_lt (a := ⟨w1.heap.size, 0, none⟩) cs0)).trans cs0⟩)
        (first
          | (go_at_call 158; refine HTR.out.mono ?_; rintro e w' ⟨rfl, rfl⟩)
          | (go_at_call 201; refine (l_small _ _ (val o2) d hin.out s2 s3 hlen2.out).mono ?_; rintro e w6 ⟨⟨v6, rfl, hv6⟩, hb6⟩; have V6 := hid hv6; have B6 := hid (show Below W.heap.size W w6 from ⟨hb6.os, hb6.tape, hb6.output, hb6.size, hb6.block⟩); clear hv6 hb6))
      have c12' := (B6.out.cell (p := ⟨_, _, _⟩) (cell_lt (a := ⟨wr.heap.size + 1 + 1, 0, none⟩) c12)).trans c12
      have HQ6 := hid (HQ.out.call B6.out)
      have rq := hid (show Row w6 (.slice (some ⟨wr.heap.size + 1, 0, none⟩) Q.length K) (ints .u64 Q) from by
        have := HQ6.out.row (n := K) (c := K) (by rw [hql.out]; exact Nat.le_refl _) (Nat.le_refl _) (by unfold maxLen; omega)
        rw [hql.out]
        rwa [List.take_of_length_le (by rw [hql.out]; exact Nat.le_refl _)] at this)
      clear c9 c11 c12 cs0
      have HK6 := hid (show w6.heap[D]? = some (.deferred (some [])) from (B6.out.block D (Array.getElem?_eq_some_iff.1 HK.out).1).trans HK.out)
      gi_wp2_with (refine ⟨trivial, ?_⟩; gi_at_call 158; have htq := l_trim_to w6 (some ⟨wr.heap.size + 1, 0, none⟩) K Q smq.out rq.out; rw [hql.out] at htq; refine (callsIn_wide.2 htq).mono ?_; clear htq; rintro e w' ⟨rfl, rfl⟩)
      refine marks_end HK6.out (v := .tuple #[.slice (some ⟨wr.heap.size + 1, 0, none⟩) (limbs (val Q)).length K, v6]) (by simp [results, Tryz.results165, go_sem]) ⟨⟨_, _, rfl, ?_, ?_⟩, ?_⟩
      · have h1 := trim_isN smq.out rq.out
        have h2 := IsN.put h1 HK6.out (.deferred none)
        rw [← hfin.out.1]
        exact h2
      · have h2 := IsN.put V6.out HK6.out (.deferred none)
        rwa [hfin.out.2] at h2
      · exact (bnext BW.out B6.out).trans (belowK_b (w := w) (Nat.le_refl _) _ D _ _ (by omega) HK6.out rfl rfl)
    case body =>
      rintro l pre ⟨j, z⟩ W ⟨hj, -⟩ ⟨⟨o2, Q, hD, hU, hQ⟩, hKp⟩
      dsimp only at hj
      rw [show K - pre.length = j + 1 by omega] at hD
      have hol : o2.length = A + 1 := hD.lo
      have hql : Q.length = K := by rw [hD.lq]; omega
      have hV := hid (val_limbs (b * d))
      have hSI := hid (show StepIn o2 (limbs (b * d)) j m from ⟨hm2, by omega, HS.out, by rw [hol]; omega, by rw [hol]; omega, hD.so, sm_limbs _, limbs_top (n := m - 1) (by rw [HS.out]; omega), by rw [hV.out]; exact hD.win (by omega)⟩)
      obtain ⟨zq, hzq⟩ : ∃ z, Q[j]? = some z := ⟨_, List.getElem?_eq_getElem (by omega)⟩
      have k9 := hKp.blk Y9'.out (by omega) (by simp; omega)
      have k10 := hKp.blk Y10'.out (by omega) (by simp; omega)
      have k11 := hKp.blk Y11.out (by omega) (by simp)
      have k12 := hKp.blk Y12.out (by omega) (by simp)
      have kv : ArrP .u64 147 W gv (limbs (b * d)) := by
        obtain ⟨cs, h1, h2⟩ := V0.out
        exact ⟨cs, hKp.blk h1 (by omega) (by simp; omega), h2⟩
      have rv := hid (show Row W (.slice (some ⟨gv, 0, none⟩) m cv) (ints .u64 (limbs (b * d))) from by
        have := kv.row (n := m) (c := cv) (by rw [HS.out]; exact Nat.le_refl _) hcv hcvm
        rwa [List.take_of_length_le (by rw [HS.out]; exact Nat.le_refl _)] at this)
      have c9 := k9.cell 0
      have c10 := k10.cell 0
      have c11 := k11.cell 0
      have c12 := k12.cell 0
      simp only [List.getElem?_toArray, List.getElem?_cons_zero] at c9 c10 c11 c12
      have HJ := hid hj; have HD := hid hD; have HU := hid hU; have HQ := hid hQ; have HKP := hid hKp; have HQL := hid hql; have HZQ := hid hzq
      have K9 := hid k9; have K10 := hid k10; have K11 := hid k11; have K12 := hid k12
      have f1 : (0 : Int) ≤ (j : Int) := by omega
      have f2 : (j : Int) < (K : Int) := by omega
      have f3 : (j : Int) + (m : Int) + 1 ≤ (cu : Int) := by omega
      have f4 : (j : Int) ≤ (j : Int) + (m : Int) + 1 := by omega
      have hjm : j + m ≤ 2000002 := by omega
      clear hj hD hU hQ hKp hql hzq hol k9 k10 k11 k12 kv
      have e1 : IntKind.i64.wrap ((j : Int) + m) = (j : Int) + m := IntWalk.i64_in _ (by omega)
      have e2 : IntKind.i64.wrap ((j : Int) + m + 1) = (j : Int) + m + 1 := IntWalk.i64_in _ (by omega)
      have e3 : ((j : Int) + m + 1).toNat = j + m + 1 := by omega
      gi_wp2
      refine held_round_lex 10 (fun W' => W'.cell? ⟨wr.heap.size + 1 + 1, 0, none⟩ = some (.slice (some ⟨wr.heap.size + 1, 0, none⟩) K K) ∧ W'.cell? ⟨w4.heap.size, 0, none⟩ = some (.slice (some ⟨gu, 0, none⟩) (A + 1) cu) ∧ W'.cell? ⟨wr.heap.size, 0, none⟩ = some (.int .i64 (m : Int)) ∧ W'.cell? ⟨w4.heap.size + 1, 0, none⟩ = some (.slice (some ⟨gv, 0, none⟩) m cv)) (by kernel_rfl) (by kernel_rfl) (by kernel_rfl) rfl (by kernel_rfl) ⟨c12, c9, c11, c10⟩ ?_
      simp only [List.take_succ_cons, List.take_zero]
      iterate 10
        apply Exists.intro
        refine ⟨.inl ⟨by rfl, ?_⟩, ?_⟩
        · (intro W' hW'
           obtain ⟨q1, q2, q3, q4⟩ := hW'
           go_simp
           try (with_reducible rfl))
        simp only [Act.put, List.setIfInBounds_toArray, List.set_cons_zero, List.set_cons_succ]
      refine held_one (i := 10) (by kernel_rfl) (by rfl) (by rfl) ?_
      go_wp2_with fail
      rw [show j + m + 1 - j = m + 1 by omega]
      refine (l_estimate _ gu j _ o2 gv 0 _ (limbs (b * d)) m hSI.out (HU.out.drewN 1) (rv.out.drewN 1) (by omega)).mono ?_
      rintro e w5 ⟨he, o5, hw5, hA5, hg5⟩
      rw [hV.out] at he hw5
      have HN5 := hid (HD.out.next (by omega) hw5)
      obtain ⟨qv, hqv⟩ : ∃ q, val ((o2.drop j).take (m + 1)) / (b * d) = q := ⟨_, rfl⟩
      rw [hqv] at he HN5
      subst he
      have A5 := hid hA5; have G5 := hid (show W.grownBy w5 (some gu) from ⟨hg5.os, hg5.tape, hg5.output, hg5.size, hg5.block⟩)
      have Q5 := hid (Arr.gb HQ.out G5.out (by omega))
      have s12 := gb_cell G5.out c12 (by simp <;> omega)
      have s9 := gb_cell G5.out c9 (by simp <;> omega)
      have s11 := gb_cell G5.out c11 (by simp <;> omega)
      have s10 := gb_cell G5.out c10 (by simp <;> omega)
      have d3 := Q5.out.cell HZQ.out
      have d4 := Q5.out.free j
      clear hw5 hA5 hg5 hqv c9 c10 c11 c12
      go_wp2_with fail
      refine ⟨⟨s12, s9, s11, s10⟩, held_one (i := 11) (by kernel_rfl) (by rfl) (by rfl) ?_⟩
      go_wp2_with fail
      refine ⟨⟨s12, s9, s11, s10⟩, held_one (i := 12) (by kernel_rfl) (by rfl) (by rfl) ?_⟩
      go_wp2_with fail
      have q5 := Q5.out.set j qv
      refine ⟨⟨?_, ?_, ?_, ?_⟩, wpAnyH_done (by kernel_rfl) ?_ _⟩
      · rw [World.cell?_setCell_other _ _ _ _ (by simp <;> omega)]; exact s12
      · rw [World.cell?_setCell_other _ _ _ _ (by simp <;> omega)]; exact s9
      · rw [World.cell?_setCell_other _ _ _ _ (by simp <;> omega)]; exact s11
      · rw [World.cell?_setCell_other _ _ _ _ (by simp <;> omega)]; exact s10
      simp only [Only]
      gi_wp2
      have k13 := HKP.out.blk Y13.out (by omega) (by simp <;> omega)
      have l13 := k13.lt
      refine ⟨(KeepsFrom.of_grownBy G5.out (fun k e => by injection e; omega)).trans ((KeepsOthers.setCell _ _ _).from _), ⟨?_, fun _ => ⟨_, q5, by rw [List.length_set, HQL.out]⟩⟩, ⟨o5, _, ?_, A5.out.other (by simp <;> omega) _, q5⟩, (HKP.out.grown G5.out (fun k e => by injection e; omega)).set (.inr (.inl rfl)) _⟩
      · rw [Below.heap_setCell _ _ _ _ (by simp <;> omega)]
        exact G5.out.block _ l13 (by simp <;> omega)
      · rw [List.length_append, List.length_singleton, show K - (pre.length + 1) = j by have := HJ.out; omega]
        exact HN5.out
/-- THE LONG DIVISION of the program, whole. -/
theorem l_DivMod (w : World) (v u : Value) (a b : Nat) (ha : IsN .u64 w v a) (hb : IsN .u64 w u b) (h0 : 0 < b) (hla : (limbs a).length ≤ 1000000) :
    Calls Tryz.prog 165 #[v, u] w fun e w' => RetNN .u64 (a / b) (a % b) e w' ∧ Below w.heap.size w w' := by
  by_cases hlt : a < b
  · exact l_divmod_less w v u a b ha hb hlt hla
  · by_cases h1 : b < 1000000000
    · exact l_divmod_one w v u a b ha hb (by omega) h0 h1 hla
    · refine l_divmod_many w v u a b _ ha hb (by omega) rfl ?_ hla
      have : 1 < (limbs b).length := limbs_lt_length.2 (by omega)
      omega
end Go.Proofs.YtccalhlhdiapiaaGreatDoor
namespace Go.Proofs.YtccalhlhdiapiaaGreatDoor
open Go.RowKit
set_option linter.unusedVariables false
set_option maxHeartbeats 2000000 in
theorem l_Gcd (w : World) (v u : Value) (a b : Nat) (ha : IsN .u64 w v a) (hb : IsN .u64 w u b) (hla : (limbs a).length ≤ 1000000) (hlb : (limbs b).length ≤ 1000000) :
    Calls Tryz.prog 164 #[v, u] w fun e w' => RetN .u64 (Nat.gcd a b) e w' ∧ Below w.heap.size w w' := by
  have HA := hid ha; have HB := hid hb; have LA := hid hla; have LB := hid hlb
  clear ha hb hla hlb
  go_enter Tryz.func164, Tryz.ntmps164
  go_wp2_with fail
  go_loopw [0, 1, 5, 6] (fun x y q r wr => ∃ m n : Nat, Hid (IsN .u64 wr x m) ∧ Hid (IsN .u64 wr y n) ∧ Hid ((limbs m).length ≤ 1000000) ∧ Hid ((limbs n).length ≤ 1000000) ∧ Hid (Nat.gcd m n = Nat.gcd a b) ∧ Hid (Below w.heap.size w wr))
    (fun x y q r wr => numOf .u64 wr y)
  case atStart => exact ⟨a, b, HA, HB, LA, LB, rfl, Below.refl _ _⟩
  case round =>
    obtain ⟨m, n, hx, hy, hm, hn, hg, hB⟩ := hrel
    have hnum := hid (numOf_eq hy.out)
    obtain ⟨a1, c1, rfl, h1, h1', h1''⟩ := hx.out.openI
    obtain ⟨a2, c2, rfl, h2, h2', h2''⟩ := hy.out.openI
    clear h1'' h2''
    by_cases h0 : n = 0
    · subst h0
      have hl : (limbs 0).length = 0 := by rw [limbs_zero]; rfl
      rw [hl] at *
      clear hl
      go_wp2_with fail
      go_ret
      exact ⟨⟨_, rfl, by rw [← hg.out, Nat.gcd_zero_right]; exact hx.out⟩, hB.out⟩
    · have hpos : 0 < (limbs n).length := List.length_pos_iff.2 (fun e => h0 (limbs_nil.1 e))
      have q0 : decide ((0 : Int) < ((limbs n).length : Int)) = true := by simp; omega
      go_wp2_with fail
      refine (l_DivMod _ _ _ m n hx.out hy.out (by omega) hm.out).mono ?_
      rintro e w1 ⟨⟨v1, v2, rfl, hv1, hv2⟩, hb1⟩
      have V2 := hid hv2; have B1 := hid (bnext hB.out hb1); have Y1 := hid (hy.out.call hb1)
      have hlt := hid (Nat.mod_lt m (y := n) (by omega))
      have hll := hid (show (limbs (m % n)).length ≤ 1000000 from Nat.le_trans (limbs_length_mono (Nat.le_of_lt hlt.out)) hn.out)
      have hgg := hid (show Nat.gcd n (m % n) = Nat.gcd a b from by rw [← hg.out, Nat.gcd_comm m n, Nat.gcd_rec n m, Nat.gcd_comm]) 
      clear hv1 hv2 hb1
      go_wp2_with fail
      go_roundw
      case rel => exact ⟨n, m % n, Y1, V2, hn, hll, hgg, B1⟩
      case measure => rw [numOf_eq V2.out, hnum.out]; exact hlt.out
end Go.Proofs.YtccalhlhdiapiaaGreatDoor
namespace Go.Proofs.YtccalhlhdiapiaaGreatDoor
open Go.RowKit
set_option linter.unusedVariables false
def isZ (n : Nat) : Bool := decide (n = 0)
def isO (n : Nat) : Bool := decide (n = 1)
theorem isZ_iff {n : Nat} : isZ n = true ↔ n = 0 := by simp [isZ]
theorem isO_iff {n : Nat} : isO n = true ↔ n = 1 := by simp [isO]
theorem limbs_len_zero {n : Nat} : (limbs n).length = 0 ↔ n = 0 := by
  rw [List.length_eq_zero_iff]; exact limbs_nil
theorem l_Zero (w : World) (v : Value) (n : Nat) (h : IsN .u64 w v n) : Calls Tryz.prog 161 #[v] w fun e w' => e = .returned (.bool (isZ n)) ∧ w = w' := by
  obtain ⟨a, c, rfl, h1, h2, -⟩ := h.openI
  obtain ⟨L, hL⟩ : ∃ L, (limbs n).length = L := ⟨_, rfl⟩
  have hz : isZ n = ((L : Int) == 0) := by
    rw [Bool.eq_iff_iff, isZ_iff, beq_iff_eq]
    rw [← limbs_len_zero, hL]; omega
  have HZ := hid hz
  rw [hL]
  clear h hL hz h1
  go_enter Tryz.func161, Tryz.ntmps161
  go_wp2_with fail
  go_ret
  exact ⟨by rw [HZ.out]; first | rfl | simp, rfl⟩
theorem l_One (w : World) (v : Value) (n : Nat) (h : IsN .u64 w v n) : Calls Tryz.prog 163 #[v] w fun e w' => e = .returned (.bool (isO n)) ∧ w = w' := by
  obtain ⟨a, c, rfl, h1, h2, h3⟩ := h.openI
  by_cases hl : (limbs n).length = 1
  · obtain ⟨x, hx⟩ : ∃ x, (limbs n)[0]? = some x := ⟨_, List.getElem?_eq_getElem (by omega)⟩
    obtain ⟨g, o, rfl, hg, hc⟩ := h3 0 x hx
    rw [Nat.add_zero] at hc
    have hn : n = x := by
      have h4 : limbs n = [x] := by
        apply List.ext_getElem?
        intro i
        rcases i with _ | i
        · exact hx
        · rw [List.getElem?_eq_none (by omega)]; simp
      have := val_limbs n
      rw [h4] at this
      simpa [val_cons] using this.symm
    subst hn
    have HL := hid hl
    rw [hl]
    clear hl hx h3 h h1
    by_cases h1 : n = 1
    · subst h1
      go_enter Tryz.func163, Tryz.ntmps163
      go_wp2_with fail
      go_ret
      exact ⟨rfl, rfl⟩
    · have q1 : ((n : Int) == 1) = false := beq_eq_false_iff_ne.2 (by omega)
      have H1 := hid (show isO n = false by simp [isO, h1])
      clear h1
      go_enter Tryz.func163, Tryz.ntmps163
      go_wp2_with fail
      go_ret
      exact ⟨ret_bool (by rw [H1.out]), rfl⟩
  · obtain ⟨L, hL⟩ : ∃ L, (limbs n).length = L := ⟨_, rfl⟩
    have hn : isO n = false := by
      refine Bool.eq_false_iff.2 fun e => hl ?_
      rw [isO_iff.1 e, limbs_one]; rfl
    rw [hL] at hl ⊢
    have q1 : ((L : Int) == 1) = false := beq_eq_false_iff_ne.2 (by omega)
    have H1 := hid hn
    clear hl hn hL h h3 h1
    go_enter Tryz.func163, Tryz.ntmps163
    go_wp2_with fail
    go_ret
    exact ⟨ret_bool (by rw [H1.out]), rfl⟩
end Go.Proofs.YtccalhlhdiapiaaGreatDoor
namespace Go.Proofs.YtccalhlhdiapiaaGreatDoor
open Go.RowKit Go.Shelf
set_option linter.unusedVariables false
/-- What the library gives for a text, under names. -/
structure Cuts (s W B D : ByteArray) (S M I fb : Bool) : Prop where
  cut : ∀ w, Lay w → Calls Tryz.prog 145 #[.string s, .string ⟨#[47]⟩] w fun e w' => e = .returned (.tuple #[.string W, .string B, .bool S]) ∧ Below w.heap.size w w'
  int : ∀ w, Calls Tryz.prog 108 #[.string W] w fun e w' => e = .returned (.tuple #[.bool M, .string D, .bool I]) ∧ Below w.heap.size w w'
  form : ∀ w, Calls Tryz.prog 160 #[.string B] w fun e w' => e = .returned (.bool fb) ∧ Below w.heap.size w w'
theorem cuts_of (s : ByteArray) (hs : s.size ≤ 1000000) : Cuts s (cW s) (cB s) (iD (cW s)) (cS s) (iM (cW s)) (iB (cW s)) (fB (cB s)) := {
  cut := fun w hL => l_cut w s (by omega) hL
  int := fun w => f_Integer w (cW s) (by have := cW_size s; omega)
  form := fun w => l_form w (cB s) (by have := cB_size s; omega) }
set_option maxRecDepth 100000 in
set_option maxHeartbeats 4000000 in
theorem fp_bad (w : World) (s W B D : ByteArray) (S M I fb : Bool) (HL : Hid (Lay w)) (HC : Cuts s W B D S M I fb)
    (h : (I && (!S || (decide (D ≠ ⟨#[48]⟩) && fb && decide (B ≠ ⟨#[48]⟩) && decide (B ≠ ⟨#[49]⟩)))) = false) :
    Calls Tryz.prog 182 #[.string s] w fun e w' => e = .returned (.tuple #[.agg #[.bool false, .slice none 0 0, .slice none 0 0], .int .i64 3]) ∧ Below w.heap.size w w' := by
  have key : (I = false) ∨ (I = true ∧ S = true ∧ (D = ⟨#[48]⟩ ∨ (¬ D = ⟨#[48]⟩ ∧ (fb = false ∨ (fb = true ∧ (B = ⟨#[48]⟩ ∨ (¬ B = ⟨#[48]⟩ ∧ B = ⟨#[49]⟩))))))) := by
    by_cases h1 : D = ⟨#[48]⟩ <;> by_cases h2 : B = ⟨#[48]⟩ <;> by_cases h3 : B = ⟨#[49]⟩ <;> cases I <;> cases S <;> cases fb <;> simp [h1, h2, h3] at h ⊢
  have HK := hid HC
  clear HC h
  have t0 := hid (Blk.new w #[.bool false, .slice none 0 0, .slice none 0 0] 125)
  have t1 := hid ((Below.refl w.heap.size w).alloc (Nat.le_refl _) (.cells #[.bool false, .slice none 0 0, .slice none 0 0] 125))
  have t2 := hid (HL.out.call t1.out)
  rcases key with rfl | ⟨rfl, rfl, rfl | ⟨h1, rfl | ⟨rfl, rfl | ⟨h2, rfl⟩⟩⟩⟩
  · cases S
    all_goals
      go_enter Tryz.func182, Tryz.ntmps182
      go_wp2_with (first
        | (go_at_call 145; refine (HK.out.cut _ t2.out).mono ?_; rintro e w1 ⟨rfl, hb1⟩
           have x1 := hid (t0.out.call hb1)
           have y1 := hid (bnext t1.out hb1)
           clear hb1)
        | (go_at_call 108; refine (HK.out.int _).mono ?_; rintro e w2 ⟨rfl, hb2⟩
           have x2 := hid (x1.out.call hb2)
           have y2 := hid (bnext y1.out hb2)
           clear hb2
           have d0 := x2.out.cell 0
           have d1 := x2.out.cell 1
           have d2 := x2.out.cell 2
           have e0 := x2.out.free 0
           have e1 := x2.out.free 1
           have e2 := x2.out.free 2
           simp at d0 d1 d2)
        | (go_at_call 160; refine (HK.out.form _).mono ?_; rintro e w3 ⟨rfl, hb3⟩
           have x3 := hid (x2.out.call hb3)
           have y3 := hid (bnext y2.out hb3)
           clear hb3 d0 d1 d2 e0 e1 e2
           have d0 := x3.out.cell 0
           have d1 := x3.out.cell 1
           have d2 := x3.out.cell 2
           have e0 := x3.out.free 0
           have e1 := x3.out.free 1
           have e2 := x3.out.free 2
           simp at d0 d1 d2)
        | fail)
      first
        | (obtain ⟨s1, s2⟩ := set3 x3.out false none none 0 0 0 0
           have f0 := s2.cell 0
           have f1 := s2.cell 1
           have f2 := s2.cell 2
           simp at f0 f1 f2
           refine bodyPost_ret (v := .tuple #[.agg #[.bool false, .slice none 0 0, .slice none 0 0], .int .i64 3]) (by simp [results, Tryz.results182, go_sem, f0, f1, f2]) rfl ⟨rfl, ?_⟩
           exact ((y3.out.setCell (Nat.le_refl _) _).setCell (Nat.le_refl _) _).setCell (Nat.le_refl _) _)
        | (obtain ⟨s1, s2⟩ := set3 x2.out false none none 0 0 0 0
           have f0 := s2.cell 0
           have f1 := s2.cell 1
           have f2 := s2.cell 2
           simp at f0 f1 f2
           refine bodyPost_ret (v := .tuple #[.agg #[.bool false, .slice none 0 0, .slice none 0 0], .int .i64 3]) (by simp [results, Tryz.results182, go_sem, f0, f1, f2]) rfl ⟨rfl, ?_⟩
           exact ((y2.out.setCell (Nat.le_refl _) _).setCell (Nat.le_refl _) _).setCell (Nat.le_refl _) _)
  all_goals (try have i1 := ne_lit (l := [48]) h1)
  all_goals (try have i2 := ne_lit (l := [48]) h2)
  all_goals
    go_enter Tryz.func182, Tryz.ntmps182
    go_wp2_with (first
      | (go_at_call 145; refine (HK.out.cut _ t2.out).mono ?_; rintro e w1 ⟨rfl, hb1⟩
         have x1 := hid (t0.out.call hb1)
         have y1 := hid (bnext t1.out hb1)
         clear hb1)
      | (go_at_call 108; refine (HK.out.int _).mono ?_; rintro e w2 ⟨rfl, hb2⟩
         have x2 := hid (x1.out.call hb2)
         have y2 := hid (bnext y1.out hb2)
         clear hb2
         have d0 := x2.out.cell 0
         have d1 := x2.out.cell 1
         have d2 := x2.out.cell 2
         have e0 := x2.out.free 0
         have e1 := x2.out.free 1
         have e2 := x2.out.free 2
         simp at d0 d1 d2)
      | (go_at_call 160; refine (HK.out.form _).mono ?_; rintro e w3 ⟨rfl, hb3⟩
         have x3 := hid (x2.out.call hb3)
         have y3 := hid (bnext y2.out hb3)
         clear hb3 d0 d1 d2 e0 e1 e2
         have d0 := x3.out.cell 0
         have d1 := x3.out.cell 1
         have d2 := x3.out.cell 2
         have e0 := x3.out.free 0
         have e1 := x3.out.free 1
         have e2 := x3.out.free 2
         simp at d0 d1 d2)
      | fail)
    first
      | (obtain ⟨s1, s2⟩ := set3 x3.out false none none 0 0 0 0
         have f0 := s2.cell 0
         have f1 := s2.cell 1
         have f2 := s2.cell 2
         simp at f0 f1 f2
         refine bodyPost_ret (v := .tuple #[.agg #[.bool false, .slice none 0 0, .slice none 0 0], .int .i64 3]) (by simp [results, Tryz.results182, go_sem, f0, f1, f2]) rfl ⟨rfl, ?_⟩
         exact ((y3.out.setCell (Nat.le_refl _) _).setCell (Nat.le_refl _) _).setCell (Nat.le_refl _) _)
      | (obtain ⟨s1, s2⟩ := set3 x2.out false none none 0 0 0 0
         have f0 := s2.cell 0
         have f1 := s2.cell 1
         have f2 := s2.cell 2
         simp at f0 f1 f2
         refine bodyPost_ret (v := .tuple #[.agg #[.bool false, .slice none 0 0, .slice none 0 0], .int .i64 3]) (by simp [results, Tryz.results182, go_sem, f0, f1, f2]) rfl ⟨rfl, ?_⟩
         exact ((y2.out.setCell (Nat.le_refl _) _).setCell (Nat.le_refl _) _).setCell (Nat.le_refl _) _)
set_option maxRecDepth 100000 in
set_option maxHeartbeats 4000000 in
theorem fp_long (w : World) (s W B D : ByteArray) (S M fb : Bool) (HL : Hid (Lay w)) (HC : Cuts s W B D S M true fb)
    (h : S = false ∨ (S = true ∧ ¬ D = ⟨#[48]⟩ ∧ ¬ B = ⟨#[48]⟩ ∧ ¬ B = ⟨#[49]⟩ ∧ fb = true)) (hl : 4000 < D.size ∨ (¬ 4000 < D.size ∧ S = true ∧ 4000 < B.size)) :
    Calls Tryz.prog 182 #[.string s] w fun e w' => e = .returned (.tuple #[.agg #[.bool false, .slice none 0 0, .slice none 0 0], .int .i64 5]) ∧ Below w.heap.size w w' := by
  have HK := hid HC
  clear HC
  have t0 := hid (Blk.new w #[.bool false, .slice none 0 0, .slice none 0 0] 125)
  have t1 := hid ((Below.refl w.heap.size w).alloc (Nat.le_refl _) (.cells #[.bool false, .slice none 0 0, .slice none 0 0] 125))
  have t2 := hid (HL.out.call t1.out)
  rcases h with rfl | ⟨rfl, h1, h2, h3, rfl⟩
  · have q0 : decide ((4000 : Int) < (D.size : Int)) = true := by
      rcases hl with hl | ⟨_, hl, _⟩
      · simp; omega
      · cases hl
    clear hl
    go_enter Tryz.func182, Tryz.ntmps182
    go_wp2_with (first
      | (go_at_call 145; refine (HK.out.cut _ t2.out).mono ?_; rintro e w1 ⟨rfl, hb1⟩
         have x1 := hid (t0.out.call hb1)
         have y1 := hid (bnext t1.out hb1)
         clear hb1)
      | (go_at_call 108; refine (HK.out.int _).mono ?_; rintro e w2 ⟨rfl, hb2⟩
         have x2 := hid (x1.out.call hb2)
         have y2 := hid (bnext y1.out hb2)
         clear hb2
         have d0 := x2.out.cell 0
         have d1 := x2.out.cell 1
         have d2 := x2.out.cell 2
         have e0 := x2.out.free 0
         have e1 := x2.out.free 1
         have e2 := x2.out.free 2
         simp at d0 d1 d2)
      | (go_at_call 160; refine (HK.out.form _).mono ?_; rintro e w3 ⟨rfl, hb3⟩
         have x3 := hid (x2.out.call hb3)
         have y3 := hid (bnext y2.out hb3)
         clear hb3 d0 d1 d2 e0 e1 e2
         have d0 := x3.out.cell 0
         have d1 := x3.out.cell 1
         have d2 := x3.out.cell 2
         have e0 := x3.out.free 0
         have e1 := x3.out.free 1
         have e2 := x3.out.free 2
         simp at d0 d1 d2)
      | fail)
    first
      | (obtain ⟨s1, s2⟩ := set3 x3.out false none none 0 0 0 0
         have f0 := s2.cell 0
         have f1 := s2.cell 1
         have f2 := s2.cell 2
         simp at f0 f1 f2
         refine bodyPost_ret (v := .tuple #[.agg #[.bool false, .slice none 0 0, .slice none 0 0], .int .i64 5]) (by simp [results, Tryz.results182, go_sem, f0, f1, f2]) rfl ⟨rfl, ?_⟩
         exact ((y3.out.setCell (Nat.le_refl _) _).setCell (Nat.le_refl _) _).setCell (Nat.le_refl _) _)
      | (obtain ⟨s1, s2⟩ := set3 x2.out false none none 0 0 0 0
         have f0 := s2.cell 0
         have f1 := s2.cell 1
         have f2 := s2.cell 2
         simp at f0 f1 f2
         refine bodyPost_ret (v := .tuple #[.agg #[.bool false, .slice none 0 0, .slice none 0 0], .int .i64 5]) (by simp [results, Tryz.results182, go_sem, f0, f1, f2]) rfl ⟨rfl, ?_⟩
         exact ((y2.out.setCell (Nat.le_refl _) _).setCell (Nat.le_refl _) _).setCell (Nat.le_refl _) _)
  · have i1 := ne_lit (l := [48]) h1
    have i2 := ne_lit (l := [48]) h2
    have i3 := ne_lit (l := [49]) h3
    rcases hl with hl | ⟨hl, -, hl2⟩
    · have q0 : decide ((4000 : Int) < (D.size : Int)) = true := by simp; omega
      clear hl
      go_enter Tryz.func182, Tryz.ntmps182
      go_wp2_with (first
        | (go_at_call 145; refine (HK.out.cut _ t2.out).mono ?_; rintro e w1 ⟨rfl, hb1⟩
           have x1 := hid (t0.out.call hb1)
           have y1 := hid (bnext t1.out hb1)
           clear hb1)
        | (go_at_call 108; refine (HK.out.int _).mono ?_; rintro e w2 ⟨rfl, hb2⟩
           have x2 := hid (x1.out.call hb2)
           have y2 := hid (bnext y1.out hb2)
           clear hb2
           have d0 := x2.out.cell 0
           have d1 := x2.out.cell 1
           have d2 := x2.out.cell 2
           have e0 := x2.out.free 0
           have e1 := x2.out.free 1
           have e2 := x2.out.free 2
           simp at d0 d1 d2)
        | (go_at_call 160; refine (HK.out.form _).mono ?_; rintro e w3 ⟨rfl, hb3⟩
           have x3 := hid (x2.out.call hb3)
           have y3 := hid (bnext y2.out hb3)
           clear hb3 d0 d1 d2 e0 e1 e2
           have d0 := x3.out.cell 0
           have d1 := x3.out.cell 1
           have d2 := x3.out.cell 2
           have e0 := x3.out.free 0
           have e1 := x3.out.free 1
           have e2 := x3.out.free 2
           simp at d0 d1 d2)
        | fail)
      first
        | (obtain ⟨s1, s2⟩ := set3 x3.out false none none 0 0 0 0
           have f0 := s2.cell 0
           have f1 := s2.cell 1
           have f2 := s2.cell 2
           simp at f0 f1 f2
           refine bodyPost_ret (v := .tuple #[.agg #[.bool false, .slice none 0 0, .slice none 0 0], .int .i64 5]) (by simp [results, Tryz.results182, go_sem, f0, f1, f2]) rfl ⟨rfl, ?_⟩
           exact ((y3.out.setCell (Nat.le_refl _) _).setCell (Nat.le_refl _) _).setCell (Nat.le_refl _) _)
        | (obtain ⟨s1, s2⟩ := set3 x2.out false none none 0 0 0 0
           have f0 := s2.cell 0
           have f1 := s2.cell 1
           have f2 := s2.cell 2
           simp at f0 f1 f2
           refine bodyPost_ret (v := .tuple #[.agg #[.bool false, .slice none 0 0, .slice none 0 0], .int .i64 5]) (by simp [results, Tryz.results182, go_sem, f0, f1, f2]) rfl ⟨rfl, ?_⟩
           exact ((y2.out.setCell (Nat.le_refl _) _).setCell (Nat.le_refl _) _).setCell (Nat.le_refl _) _)
    · have q0 : decide ((4000 : Int) < (D.size : Int)) = false := by simp; omega
      have q1 : decide ((4000 : Int) < (B.size : Int)) = true := by simp; omega
      clear hl hl2
      go_enter Tryz.func182, Tryz.ntmps182
      go_wp2_with (first
        | (go_at_call 145; refine (HK.out.cut _ t2.out).mono ?_; rintro e w1 ⟨rfl, hb1⟩
           have x1 := hid (t0.out.call hb1)
           have y1 := hid (bnext t1.out hb1)
           clear hb1)
        | (go_at_call 108; refine (HK.out.int _).mono ?_; rintro e w2 ⟨rfl, hb2⟩
           have x2 := hid (x1.out.call hb2)
           have y2 := hid (bnext y1.out hb2)
           clear hb2
           have d0 := x2.out.cell 0
           have d1 := x2.out.cell 1
           have d2 := x2.out.cell 2
           have e0 := x2.out.free 0
           have e1 := x2.out.free 1
           have e2 := x2.out.free 2
           simp at d0 d1 d2)
        | (go_at_call 160; refine (HK.out.form _).mono ?_; rintro e w3 ⟨rfl, hb3⟩
           have x3 := hid (x2.out.call hb3)
           have y3 := hid (bnext y2.out hb3)
           clear hb3 d0 d1 d2 e0 e1 e2
           have d0 := x3.out.cell 0
           have d1 := x3.out.cell 1
           have d2 := x3.out.cell 2
           have e0 := x3.out.free 0
           have e1 := x3.out.free 1
           have e2 := x3.out.free 2
           simp at d0 d1 d2)
        | fail)
      first
        | (obtain ⟨s1, s2⟩ := set3 x3.out false none none 0 0 0 0
           have f0 := s2.cell 0
           have f1 := s2.cell 1
           have f2 := s2.cell 2
           simp at f0 f1 f2
           refine bodyPost_ret (v := .tuple #[.agg #[.bool false, .slice none 0 0, .slice none 0 0], .int .i64 5]) (by simp [results, Tryz.results182, go_sem, f0, f1, f2]) rfl ⟨rfl, ?_⟩
           exact ((y3.out.setCell (Nat.le_refl _) _).setCell (Nat.le_refl _) _).setCell (Nat.le_refl _) _)
        | (obtain ⟨s1, s2⟩ := set3 x2.out false none none 0 0 0 0
           have f0 := s2.cell 0
           have f1 := s2.cell 1
           have f2 := s2.cell 2
           simp at f0 f1 f2
           refine bodyPost_ret (v := .tuple #[.agg #[.bool false, .slice none 0 0, .slice none 0 0], .int .i64 5]) (by simp [results, Tryz.results182, go_sem, f0, f1, f2]) rfl ⟨rfl, ?_⟩
           exact ((y2.out.setCell (Nat.le_refl _) _).setCell (Nat.le_refl _) _).setCell (Nat.le_refl _) _)
end Go.Proofs.YtccalhlhdiapiaaGreatDoor
namespace Go.Proofs.YtccalhlhdiapiaaGreatDoor
open Go.RowKit Go.Shelf
theorem bN_limbs {s : ByteArray} (h : allDig s.data.toList) (hs : ¬ 4000 < s.size) : (limbs (bN s)).length ≤ 1000000 := by
  refine dv_limbs h ?_
  have : s.data.toList.length = s.size := Array.length_toList
  omega
theorem qD_false {s : ByteArray} (h : cS s = false) : qD s = ⟨#[49]⟩ := by simp [qD, h]
theorem qD_true {s : ByteArray} (h : cS s = true) : qD s = cB s := by simp [qD, h]
end Go.Proofs.YtccalhlhdiapiaaGreatDoor
namespace Go.Proofs.YtccalhlhdiapiaaGreatDoor
open Go.RowKit Go.Shelf
set_option linter.unusedVariables false
/-- The struct of a sign, a numerator and a denominator. -/
def IsF (w : World) (v : Value) (m : Bool) (n d : Nat) : Prop := ∃ N D, v = .agg #[.bool m, N, D] ∧ IsN .u64 w N n ∧ IsN .u64 w D d
/-- What reading a text gives back. -/
def RetF (x : Int) (m : Bool) (n d : Nat) (e : Ending) (w' : World) : Prop := ∃ v, e = .returned (.tuple #[v, .int .i64 x]) ∧ (x = 0 → IsF w' v m n d) ∧ (x ≠ 0 → v = .agg #[.bool false, .slice none 0 0, .slice none 0 0])
theorem RetF.err {x : Int} {m : Bool} {n d : Nat} {w' : World} (h : x ≠ 0) : RetF x m n d (.returned (.tuple #[.agg #[.bool false, .slice none 0 0, .slice none 0 0], .int .i64 x])) w' := ⟨_, rfl, fun e => absurd e h, fun _ => rfl⟩
set_option maxRecDepth 100000 in
set_option maxHeartbeats 400000 in
theorem fp_frac (w : World) (s W B D : ByteArray) (M : Bool) (HL : Hid (Lay w)) (HC : Cuts s W B D true M true true)
    (h1 : ¬ D = ⟨#[48]⟩) (h2 : ¬ B = ⟨#[48]⟩) (h3 : ¬ B = ⟨#[49]⟩) (hl1 : ¬ 4000 < D.size) (hl2 : ¬ 4000 < B.size) (hd1 : allDig D.data.toList) (hd2 : allDig B.data.toList) :
    Calls Tryz.prog 182 #[.string s] w fun e w' => RetF (if Nat.gcd (bN D) (bN B) = 1 then 0 else 3) M (bN D) (bN B) e w' ∧ Below w.heap.size w w' := by
  obtain ⟨xc, hxc⟩ : ∃ x : Int, (if Nat.gcd (bN D) (bN B) = 1 then 0 else 3) = x := ⟨_, rfl⟩
  rw [hxc]
  have HXC := hid hxc
  clear hxc
  have HK := hid HC
  clear HC
  have t0 := hid (Blk.new w #[.bool false, .slice none 0 0, .slice none 0 0] 125)
  have t1 := hid ((Below.refl w.heap.size w).alloc (Nat.le_refl _) (.cells #[.bool false, .slice none 0 0, .slice none 0 0] 125))
  have t2 := hid (HL.out.call t1.out)
  have i1 := ne_lit (l := [48]) h1
  have i2 := ne_lit (l := [48]) h2
  have i3 := ne_lit (l := [49]) h3
  have q0 : decide ((4000 : Int) < (D.size : Int)) = false := by simp; omega
  have q1 : decide ((4000 : Int) < (B.size : Int)) = false := by simp; omega
  have L1 := hid (bN_limbs hd1 hl1)
  have L2 := hid (bN_limbs hd2 hl2)
  have P1 := fun W => hid (l_Parse W D hd1 (by omega))
  have P2 := fun W => hid (l_Parse W B hd2 (by omega))
  clear hd1 hd2 h1 h2 h3 hl1 hl2
  go_enter Tryz.func182, Tryz.ntmps182
  go_wp2_with (first
    | (go_at_call 145; refine (HK.out.cut _ t2.out).mono ?_; rintro e w1 ⟨rfl, hb1⟩
       have x1 := hid (t0.out.call hb1)
       have y1 := hid (bnext t1.out hb1)
       clear hb1)
    | (go_at_call 108; refine (HK.out.int _).mono ?_; rintro e w2 ⟨rfl, hb2⟩
       have x2 := hid (x1.out.call hb2)
       have y2 := hid (bnext y1.out hb2)
       clear hb2)
    | (go_at_call 160; refine (HK.out.form _).mono ?_; rintro e w3 ⟨rfl, hb3⟩
       have x3 := hid (x2.out.call hb3)
       have y3 := hid (bnext y2.out hb3)
       clear hb3)
    | fail)
  refine (P1 _).out.mono ?_; rintro e w4 ⟨⟨v4, rfl, hv4⟩, hb4⟩
  have x4 := hid (x3.out.call hb4)
  have y4 := hid (bnext y3.out hb4)
  have N4 := hid hv4
  clear hb4 hv4
  obtain ⟨a4, c4, rfl, _⟩ := N4.out.openI
  obtain ⟨k1, hk1⟩ : ∃ k, (limbs (dv D.data.toList)).length = k := ⟨_, rfl⟩
  rw [hk1] at N4 ⊢
  clear P1
  go_wp2_with fail
  refine (P2 _).out.mono ?_; rintro e w5 ⟨⟨v5, rfl, hv5⟩, hb5⟩
  have x5 := hid (x4.out.call hb5)
  have y5 := hid (bnext y4.out hb5)
  have N5 := hid (N4.out.call hb5)
  have D5 := hid hv5
  clear hb5 hv5
  obtain ⟨a5, c5, rfl, _⟩ := D5.out.openI
  obtain ⟨k2, hk2⟩ : ∃ k, (limbs (dv B.data.toList)).length = k := ⟨_, rfl⟩
  rw [hk2] at D5 ⊢
  clear P2
  go_wp2_with fail
  have z5 := hid (Blk.new w5 #[.bool M, .slice a4 k1 c4, .slice a5 k2 c5] 125)
  have b5 := hid ((Below.refl w5.heap.size w5).alloc (Nat.le_refl _) (.cells #[.bool M, .slice a4 k1 c4, .slice a5 k2 c5] 125))
  refine (l_Gcd _ _ _ _ _ (N5.out.call b5.out) (D5.out.call b5.out) L1.out L2.out).mono ?_
  rintro e w6 ⟨⟨v6, rfl, hv6⟩, hb6⟩
  have z6 := hid (z5.out.call hb6)
  have x6 := hid ((x5.out.call b5.out).call hb6)
  have y6 := hid (bnext (bnext y5.out b5.out) hb6)
  have N6 := hid ((N5.out.call b5.out).call hb6)
  have D6 := hid ((D5.out.call b5.out).call hb6)
  have G6 := hid hv6
  clear hb6 hv6
  obtain ⟨a6, c6, rfl, _⟩ := G6.out.openI
  go_wp2_with fail
  refine (l_One _ _ _ G6.out).mono ?_
  rintro e w7 ⟨rfl, rfl⟩
  by_cases hG : Nat.gcd (bN D) (bN B) = 1
  · have hO : isO (Nat.gcd (dv D.data.toList) (dv B.data.toList)) = true := isO_iff.2 hG
    have X0 := hid (show xc = 0 from by rw [← HXC.out, if_pos hG])
    rw [hO]
    have d0 := x6.out.cell 0
    have d1 := x6.out.cell 1
    have d2 := x6.out.cell 2
    have e0 := x6.out.free 0
    have e1 := x6.out.free 1
    have e2 := x6.out.free 2
    have g0 := z6.out.cell 0
    have g1 := z6.out.cell 1
    have g2 := z6.out.cell 2
    simp at d0 d1 d2 g0 g1 g2
    clear hO
    have HG := hid hG
    clear hG
    go_wp2_with fail
    obtain ⟨s1, s2⟩ := set3 x6.out M a4 a5 k1 c4 k2 c5
    have f0 := s2.cell 0
    have f1 := s2.cell 1
    have f2 := s2.cell 2
    simp at f0 f1 f2
    refine bodyPost_ret (v := .tuple #[.agg #[.bool M, .slice a4 k1 c4, .slice a5 k2 c5], .int .i64 0]) (by simp [results, Tryz.results182, go_sem, f0, f1, f2]) rfl ⟨by rw [X0.out]; exact ⟨_, rfl, fun _ => ⟨_, _, rfl, s1 _ _ _ N6.out, s1 _ _ _ D6.out⟩, fun h => absurd rfl h⟩, ?_⟩
    exact ((y6.out.setCell (Nat.le_refl _) _).setCell (Nat.le_refl _) _).setCell (Nat.le_refl _) _
  · have hO : isO (Nat.gcd (dv D.data.toList) (dv B.data.toList)) = false := by
      rw [Bool.eq_false_iff]
      exact fun h => hG (isO_iff.1 h)
    have X0 := hid (show xc = 3 from by rw [← HXC.out, if_neg hG])
    rw [hO]
    have d0 := x6.out.cell 0
    have d1 := x6.out.cell 1
    have d2 := x6.out.cell 2
    have e0 := x6.out.free 0
    have e1 := x6.out.free 1
    have e2 := x6.out.free 2
    simp at d0 d1 d2
    clear hO
    have HG := hid hG
    clear hG
    go_wp2_with fail
    obtain ⟨s1, s2⟩ := set3 x6.out false none none 0 0 0 0
    have f0 := s2.cell 0
    have f1 := s2.cell 1
    have f2 := s2.cell 2
    simp at f0 f1 f2
    refine bodyPost_ret (v := .tuple #[.agg #[.bool false, .slice none 0 0, .slice none 0 0], .int .i64 3]) (by simp [results, Tryz.results182, go_sem, f0, f1, f2]) rfl ⟨by rw [X0.out]; exact RetF.err (by decide), ?_⟩
    exact ((y6.out.setCell (Nat.le_refl _) _).setCell (Nat.le_refl _) _).setCell (Nat.le_refl _) _
end Go.Proofs.YtccalhlhdiapiaaGreatDoor
namespace Go.Proofs.YtccalhlhdiapiaaGreatDoor
open Go.RowKit Go.Shelf
set_option linter.unusedVariables false
set_option maxRecDepth 100000 in
set_option maxHeartbeats 4000000 in
theorem fp_int (w : World) (s W B D : ByteArray) (M fb : Bool) (HL : Hid (Lay w)) (HC : Cuts s W B D false M true fb)
    (hl1 : ¬ 4000 < D.size) (hd1 : allDig D.data.toList) :
    Calls Tryz.prog 182 #[.string s] w fun e w' => RetF 0 M (bN D) 1 e w' ∧ Below w.heap.size w w' := by
  have HK := hid HC
  clear HC
  have t0 := hid (Blk.new w #[.bool false, .slice none 0 0, .slice none 0 0] 125)
  have t1 := hid ((Below.refl w.heap.size w).alloc (Nat.le_refl _) (.cells #[.bool false, .slice none 0 0, .slice none 0 0] 125))
  have t2 := hid (HL.out.call t1.out)
  have q0 : decide ((4000 : Int) < (D.size : Int)) = false := by simp; omega
  have P1 := fun W => hid (l_Parse W D hd1 (by omega))
  have P2 := fun W => hid (l_Parse W ⟨#[49]⟩ (by intro b hb; simp at hb; subst hb; rfl) (Nat.succ_le_succ (Nat.zero_le _)))
  clear hd1 hl1
  go_enter Tryz.func182, Tryz.ntmps182
  go_wp2_with (first
    | (go_at_call 145; refine (HK.out.cut _ t2.out).mono ?_; rintro e w1 ⟨rfl, hb1⟩
       have x1 := hid (t0.out.call hb1)
       have y1 := hid (bnext t1.out hb1)
       clear hb1)
    | (go_at_call 108; refine (HK.out.int _).mono ?_; rintro e w2 ⟨rfl, hb2⟩
       have x2 := hid (x1.out.call hb2)
       have y2 := hid (bnext y1.out hb2)
       clear hb2)
    | fail)
  refine (P1 _).out.mono ?_; rintro e w4 ⟨⟨v4, rfl, hv4⟩, hb4⟩
  have x4 := hid (x2.out.call hb4)
  have y4 := hid (bnext y2.out hb4)
  have N4 := hid hv4
  clear hb4 hv4
  obtain ⟨a4, c4, rfl, _⟩ := N4.out.openI
  obtain ⟨k1, hk1⟩ : ∃ k, (limbs (dv D.data.toList)).length = k := ⟨_, rfl⟩
  rw [hk1] at N4 ⊢
  clear P1
  go_wp2_with fail
  refine (P2 _).out.mono ?_; rintro e w5 ⟨⟨v5, rfl, hv5⟩, hb5⟩
  have x5 := hid (x4.out.call hb5)
  have y5 := hid (bnext y4.out hb5)
  have N5 := hid (N4.out.call hb5)
  have D5 := hid (show IsN .u64 w5 v5 1 from hv5)
  clear hb5 hv5
  obtain ⟨a5, c5, rfl, _⟩ := D5.out.openI
  obtain ⟨k2, hk2⟩ : ∃ k, (limbs 1).length = k := ⟨_, rfl⟩
  rw [hk2] at D5 ⊢
  clear P2
  have z6 := hid (Blk.new w5 #[.bool M, .slice a4 k1 c4, .slice a5 k2 c5] 125)
  have b5 := hid ((Below.refl w5.heap.size w5).alloc (Nat.le_refl _) (.cells #[.bool M, .slice a4 k1 c4, .slice a5 k2 c5] 125))
  have x6 := hid (x5.out.call b5.out)
  have y6 := hid (bnext y5.out b5.out)
  have N6 := hid (N5.out.call b5.out)
  have D6 := hid (D5.out.call b5.out)
  have d0 := x6.out.cell 0
  have d1 := x6.out.cell 1
  have d2 := x6.out.cell 2
  have e0 := x6.out.free 0
  have e1 := x6.out.free 1
  have e2 := x6.out.free 2
  have g0 := z6.out.cell 0
  have g1 := z6.out.cell 1
  have g2 := z6.out.cell 2
  simp at d0 d1 d2 g0 g1 g2
  go_wp2_with fail
  obtain ⟨s1, s2⟩ := set3 x6.out M a4 a5 k1 c4 k2 c5
  have f0 := s2.cell 0
  have f1 := s2.cell 1
  have f2 := s2.cell 2
  simp at f0 f1 f2
  refine bodyPost_ret (v := .tuple #[.agg #[.bool M, .slice a4 k1 c4, .slice a5 k2 c5], .int .i64 0]) (by simp [results, Tryz.results182, go_sem, f0, f1, f2]) rfl ⟨⟨_, rfl, fun _ => ⟨_, _, rfl, s1 _ _ _ N6.out, s1 _ _ _ D6.out⟩, fun h => absurd rfl h⟩, ?_⟩
  exact ((y6.out.setCell (Nat.le_refl _) _).setCell (Nat.le_refl _) _).setCell (Nat.le_refl _) _
theorem f_Parse (w : World) (s : ByteArray) (hs : s.size ≤ 1000000) (hL : Lay w) :
    Calls Tryz.prog 182 #[.string s] w fun e w' => RetF (qE s) (iM (cW s)) (bN (iD (cW s))) (bN (qD s)) e w' ∧ Below w.heap.size w w' := by
  have HC := cuts_of s hs
  have HL := hid hL
  by_cases hq : qB s = true
  · have hi := qB_whole hq
    rw [hi] at HC
    have hdD := fB_dig (iB_form hi)
    have hcS : cS s = false ∨ (cS s = true ∧ ¬ iD (cW s) = ⟨#[48]⟩ ∧ ¬ cB s = ⟨#[48]⟩ ∧ ¬ cB s = ⟨#[49]⟩ ∧ fB (cB s) = true) := by
      have hq' := hq
      unfold qB at hq'
      simp only [Bool.and_eq_true, Bool.or_eq_true, Bool.not_eq_true', decide_eq_true_eq] at hq'
      rcases hq'.2 with h | h
      · exact .inl h
      · cases hc : cS s
        · exact .inl rfl
        · exact .inr ⟨rfl, h.1.1.1, h.1.2, h.2, h.1.1.2⟩
    by_cases hl : qL s = true
    · have e : qE s = 5 := by simp [qE, hq, hl]
      rw [e]
      unfold qL at hl
      simp only [Bool.or_eq_true, decide_eq_true_eq] at hl
      refine (fp_long w s _ _ _ _ _ _ HL HC hcS ?_).mono ?_
      · by_cases h4 : 4000 < (iD (cW s)).size
        · exact .inl h4
        · refine .inr ⟨h4, ?_⟩
          rcases hcS with hc | ⟨hc, -⟩
          · rw [qD_false hc] at hl
            exact absurd (hl.resolve_left h4) (by decide)
          · rw [qD_true hc] at hl
            exact ⟨hc, hl.resolve_left h4⟩
      · rintro e w' ⟨rfl, hb⟩
        exact ⟨RetF.err (by decide), hb⟩
    · have hl' : qL s = false := by simpa using hl
      have hl1 : ¬ 4000 < (iD (cW s)).size ∧ ¬ 4000 < (qD s).size := by
        unfold qL at hl'
        simpa using hl'
      rcases hcS with hc | ⟨hc, h1, h2, h3, h4⟩
      · rw [hc] at HC
        have e : qE s = 0 := by simp [qE, hq, hl', qG, hc]
        rw [e, qD_false hc]
        exact fp_int w s _ _ _ _ _ HL HC hl1.1 hdD
      · rw [hc, h4] at HC
        have hl2 := hl1.2
        rw [qD_true hc] at hl2
        have e : qE s = if Nat.gcd (bN (iD (cW s))) (bN (cB s)) = 1 then 0 else 3 := by
          simp only [qE, hq, hl', qG, hc, qD_true hc]
          by_cases hg : Nat.gcd (bN (iD (cW s))) (bN (cB s)) = 1 <;> simp [hg]
        rw [e, qD_true hc]
        exact fp_frac w s _ _ _ _ HL HC h1 h2 h3 hl1.1 hl2 hdD (fB_dig h4)
  · have hq' : qB s = false := by simpa using hq
    have e : qE s = 3 := by simp [qE, hq']
    rw [e]
    refine (fp_bad w s _ _ _ _ _ _ _ HL HC hq').mono ?_
    rintro e w' ⟨rfl, hb⟩
    exact ⟨RetF.err (by decide), hb⟩
end Go.Proofs.YtccalhlhdiapiaaGreatDoor
namespace Go.Proofs.YtccalhlhdiapiaaGreatDoor
open Go.RowKit Go.Shelf
set_option linter.unusedVariables false
/-- What reading gives, as three parts. -/
theorem RetF.parts {x : Int} {m : Bool} {n d : Nat} {e : Ending} {w' : World} (h : RetF x m n d e w') : ∃ (b : Bool) (a1 a2 : Option Addr) (n1 c1 n2 c2 : Nat), e = .returned (.tuple #[.agg #[.bool b, .slice a1 n1 c1, .slice a2 n2 c2], .int .i64 x]) := by
  obtain ⟨v, rfl, h1, h2⟩ := h
  by_cases hx : x = 0
  · obtain ⟨N, D, rfl, hN, hD⟩ := h1 hx
    obtain ⟨a1, c1, rfl, _⟩ := hN.openI
    obtain ⟨a2, c2, rfl, _⟩ := hD.openI
    exact ⟨_, _, _, _, _, _, _, rfl⟩
  · rw [h2 hx]
    exact ⟨_, _, _, _, _, _, _, rfl⟩
set_option maxRecDepth 100000 in
set_option maxHeartbeats 1000000 in
theorem q_Check (w : World) (s : ByteArray) (hs : s.size ≤ 1000000) (hL : Lay w) :
    Calls Tryz.prog 144 #[.string s] w fun e w' => e = .returned (.int .i64 (qE s)) ∧ Below w.heap.size w w' := by
  have HC := hid (f_Parse w s hs hL)
  go_enter Tryz.func144, Tryz.ntmps144
  go_wp2_with fail
  refine HC.out.mono ?_
  rintro e w1 ⟨hr, hb⟩
  obtain ⟨b, a1, a2, n1, c1, n2, c2, rfl⟩ := hr.parts
  have HB := hid hb
  clear hr hb
  go_wp2_with fail
  go_ret
  exact ⟨rfl, HB.out.alloc HB.out.size _⟩
/-- The numerator's and the denominator's text, of a text that is valid. -/
def pW (s : ByteArray) : ByteArray := if qE s = 0 then cW s else ⟨#[]⟩
def pD (s : ByteArray) : ByteArray := if qE s = 0 then qD s else ⟨#[]⟩
set_option maxRecDepth 100000 in
set_option maxHeartbeats 1000000 in
theorem q_Parts (w : World) (s : ByteArray) (hs : s.size ≤ 1000000) (hL : Lay w) :
    Calls Tryz.prog 96 #[.string s] w fun e w' => e = .returned (.tuple #[.string (pW s), .string (pD s), .int .i64 (qE s)]) ∧ Below w.heap.size w w' := by
  have HC := hid (q_Check w s hs hL)
  have HU := hid (cuts_of s hs)
  have HL := hid hL
  clear hL
  by_cases he : qE s = 0
  · have e1 : pW s = cW s := if_pos he
    have e2 : pD s = qD s := if_pos he
    rw [e1, e2, he]
    rw [he] at HC
    clear e1 e2
    obtain ⟨W, hW⟩ : ∃ W, cW s = W := ⟨_, rfl⟩
    obtain ⟨B, hB⟩ : ∃ B, cB s = B := ⟨_, rfl⟩
    rw [hW, hB] at HU
    rw [hW]
    cases hc : cS s
    · rw [qD_false hc]
      rw [hc] at HU
      clear hW hB hc he
      go_enter Tryz.func96, Tryz.ntmps96
      go_wp2_with (first
        | (go_at_call 144; refine HC.out.mono ?_; rintro e w1 ⟨rfl, hb1⟩
           have y1 := hid hb1; clear hb1)
        | (go_at_call 145; refine (HU.out.cut _ (HL.out.call y1.out)).mono ?_; rintro e w2 ⟨rfl, hb2⟩
           have y2 := hid (bnext y1.out hb2); clear hb2)
        | fail)
      go_ret3
      exact ⟨rfl, y2.out⟩
    · rw [qD_true hc, hB]
      rw [hc] at HU
      clear hW hB hc he
      go_enter Tryz.func96, Tryz.ntmps96
      go_wp2_with (first
        | (go_at_call 144; refine HC.out.mono ?_; rintro e w1 ⟨rfl, hb1⟩
           have y1 := hid hb1; clear hb1)
        | (go_at_call 145; refine (HU.out.cut _ (HL.out.call y1.out)).mono ?_; rintro e w2 ⟨rfl, hb2⟩
           have y2 := hid (bnext y1.out hb2); clear hb2)
        | fail)
      go_ret3
      exact ⟨rfl, y2.out⟩
  · have e1 : pW s = ⟨#[]⟩ := if_neg he
    have e2 : pD s = ⟨#[]⟩ := if_neg he
    rw [e1, e2]
    have q0 : (qE s != 0) = true := by simpa using he
    obtain ⟨x, hx⟩ : ∃ x, qE s = x := ⟨_, rfl⟩
    rw [hx] at HC q0 ⊢
    clear hx he e1 e2
    have q1 : (x == 0) = false := by simpa using q0
    have q2 : ¬ x = 0 := by simpa using q0
    go_enter Tryz.func96, Tryz.ntmps96
    go_wp2_with (first
      | (go_at_call 144; refine HC.out.mono ?_; rintro e w1 ⟨rfl, hb1⟩
         have y1 := hid hb1; clear hb1)
      | fail)
    go_ret3
    exact ⟨rfl, y1.out⟩
end Go.Proofs.YtccalhlhdiapiaaGreatDoor
namespace Go.Proofs.YtccalhlhdiapiaaGreatDoor
open Go.RowKit Go.Shelf
open Go.Lib (decDigits nDigits)
set_option linter.unusedVariables false
set_option maxRecDepth 100000 in
set_option maxHeartbeats 1000000 in
theorem c_checked (w : World) (s : ByteArray) (hs : s.size ≤ 100000000) :
    Calls Tryz.prog 222 #[.string s] w fun e w' => e = .returned (.int .i64 (chkE s)) ∧ Below w.heap.size w w' := by
  have HC := hid (b_Check w s hs)
  by_cases hb : bitB s = true
  · have e0 : bitE s = 0 := if_pos hb
    rw [e0] at HC
    by_cases hl : 256 < s.size
    · have e1 : chkE s = 4 := by rw [chkE, if_pos hb, if_pos hl]
      have q0 : decide ((256 : Int) < (s.size : Int)) = true := by simp; omega
      rw [e1]
      clear hb hl e0 e1
      go_enter Tryz.func222, Tryz.ntmps222
      go_wp2_with fail
      refine HC.out.mono ?_; rintro e w1 ⟨rfl, hb1⟩
      go_wp2_with fail
      go_ret
      exact ⟨rfl, hb1⟩
    · have e1 : chkE s = 0 := by rw [chkE, if_pos hb, if_neg hl]
      have q0 : decide ((256 : Int) < (s.size : Int)) = false := by simp; omega
      rw [e1]
      clear hb hl e0 e1
      go_enter Tryz.func222, Tryz.ntmps222
      go_wp2_with fail
      refine HC.out.mono ?_; rintro e w1 ⟨rfl, hb1⟩
      go_wp2_with fail
      go_ret
      exact ⟨rfl, hb1⟩
  · have e0 : bitE s = 3 := if_neg hb
    have e1 : chkE s = 3 := if_neg hb
    rw [e0] at HC
    rw [e1]
    clear hb e0 e1
    go_enter Tryz.func222, Tryz.ntmps222
    go_wp2_with fail
    refine HC.out.mono ?_; rintro e w1 ⟨rfl, hb1⟩
    go_wp2_with fail
    go_ret
    exact ⟨rfl, hb1⟩
set_option maxRecDepth 100000 in
set_option maxHeartbeats 1000000 in
theorem c_plus (w : World) (s t : ByteArray) (hs : s.size ≤ 1000000) (ht : t.size ≤ 1000000) (hL : Lay w) :
    Calls Tryz.prog 246 #[.string s, .string t] w fun e w' => e = .returned (.string (natB (· + ·) s t)) ∧ Below w.heap.size w w' := by
  have P := hid (n_Add w s t hs ht hL)
  go_enter Tryz.func246, Tryz.ntmps246
  go_wp2_with fail
  refine P.out.mono ?_; rintro e w1 ⟨rfl, hb1⟩
  go_wp2_with fail
  go_ret
  exact ⟨rfl, hb1⟩
set_option maxRecDepth 100000 in
set_option maxHeartbeats 1000000 in
theorem c_times (w : World) (s t : ByteArray) (hs : s.size ≤ 1000000) (ht : t.size ≤ 1000000) (hL : Lay w) :
    Calls Tryz.prog 245 #[.string s, .string t] w fun e w' => e = .returned (.string (natB (· * ·) s t)) ∧ Below w.heap.size w w' := by
  have P := hid (n_Mul w s t hs ht hL)
  go_enter Tryz.func245, Tryz.ntmps245
  go_wp2_with fail
  refine P.out.mono ?_; rintro e w1 ⟨rfl, hb1⟩
  go_wp2_with fail
  go_ret
  exact ⟨rfl, hb1⟩
set_option maxRecDepth 100000 in
set_option maxHeartbeats 1000000 in
theorem g_plus (w : World) (s t : ByteArray) (hs : s.size ≤ 1000000) (ht : t.size ≤ 1000000) (hL : Lay w) :
    Calls Tryz.prog 61 #[.string s, .string t] w fun e w' => e = .returned (.string (natB (· + ·) s t)) ∧ Below w.heap.size w w' := by
  have P := hid (n_Add w s t hs ht hL)
  go_enter Tryz.func61, Tryz.ntmps61
  go_wp2_with fail
  refine P.out.mono ?_; rintro e w1 ⟨rfl, hb1⟩
  go_wp2_with fail
  go_ret
  exact ⟨rfl, hb1⟩
set_option maxRecDepth 100000 in
set_option maxHeartbeats 1000000 in
theorem g_times (w : World) (s t : ByteArray) (hs : s.size ≤ 1000000) (ht : t.size ≤ 1000000) (hL : Lay w) :
    Calls Tryz.prog 62 #[.string s, .string t] w fun e w' => e = .returned (.string (natB (· * ·) s t)) ∧ Below w.heap.size w w' := by
  have P := hid (n_Mul w s t hs ht hL)
  go_enter Tryz.func62, Tryz.ntmps62
  go_wp2_with fail
  refine P.out.mono ?_; rintro e w1 ⟨rfl, hb1⟩
  go_wp2_with fail
  go_ret
  exact ⟨rfl, hb1⟩
end Go.Proofs.YtccalhlhdiapiaaGreatDoor
namespace Go.Proofs.YtccalhlhdiapiaaGreatDoor
open Go.RowKit Go.Shelf
open Go.Lib (decDigits nDigits)
set_option linter.unusedVariables false
/-- The first byte of a valid text tells whether it is negative. -/
theorem qE_head {s W : ByteArray} (h : qE s = 0) (hW : cW s = W) : ∃ h0 : 0 < W.size, ((W[0].toNat : Int) == 45) = iM W := by
  subst hW
  have h1 := (qE_zero h).1
  have h2 := fB_dig (iB_form (qB_whole h1))
  have h3 := (formB_iff.1 (iB_form (qB_whole h1))).1
  obtain ⟨l, hl⟩ : ∃ l, (cW s).data.toList = l := ⟨_, rfl⟩
  have e : cW s = ⟨⟨l⟩⟩ := by
    apply ByteArray.ext
    rw [← hl]
  rw [e] at h2 h3 ⊢
  cases l with
  | nil => exact absurd rfl h3
  | cons b r =>
    refine ⟨Nat.succ_pos _, ?_⟩
    have e2 : (ByteArray.mk ⟨b :: r⟩)[0]'(Nat.succ_pos _) = b := rfl
    have e3 : iM ⟨⟨b :: r⟩⟩ = ((45 : UInt8) == b) := by
      simp [iM, Lib.hasPrefix, List.isPrefixOf]
    rw [e3]
    show ((((ByteArray.mk ⟨b :: r⟩)[0]'(Nat.succ_pos _)).toNat : Int) == 45) = _
    rw [e2, Bool.eq_iff_iff, beq_iff_eq, beq_iff_eq]
    constructor
    · intro h
      apply UInt8.toNat_inj.1
      simp
      omega
    · intro h
      rw [← h]
      rfl
end Go.Proofs.YtccalhlhdiapiaaGreatDoor
namespace Go.Proofs.YtccalhlhdiapiaaGreatDoor
open Go.RowKit Go.Shelf
open Go.Lib (decDigits nDigits)
set_option linter.unusedVariables false
/-- The error of coin.parts. -/
def cPE (s : ByteArray) : Int := if qE s ≠ 0 then qE s else if iM (cW s) = true ∨ 0 < cmpN (cW s).data.toList (qD s).data.toList then 2 else if 1000 < (cW s).size ∨ 1000 < (qD s).size then 5 else 0
set_option maxRecDepth 100000 in
set_option maxHeartbeats 2000000 in
theorem c_parts (w : World) (s : ByteArray) (hs : s.size ≤ 100000) (hL : Lay w) :
    Calls Tryz.prog 221 #[.string s] w fun e w' => e = .returned (.tuple #[.string (if cPE s = 0 then cW s else ⟨#[]⟩), .string (if cPE s = 0 then qD s else ⟨#[]⟩), .int .i64 (cPE s)]) ∧ Below w.heap.size w w' := by
  have HC := hid (q_Parts w s (by omega) hL)
  have z1 := cW_size s
  have z2 := qD_size s
  have HM := fun V => hid (n_Cmp V (cW s) (qD s) (by omega) (by omega))
  by_cases he : qE s = 0
  · have e1 : pW s = cW s := if_pos he
    have e2 : pD s = qD s := if_pos he
    rw [e1, e2, he] at HC
    have HE : cPE s = if iM (cW s) = true ∨ 0 < cmpN (cW s).data.toList (qD s).data.toList then 2 else if 1000 < (cW s).size ∨ 1000 < (qD s).size then 5 else 0 := by
      unfold cPE
      rw [if_neg (fun h => h he)]
    rw [HE]
    clear HE e1 e2
    obtain ⟨D, hD⟩ : ∃ D, qD s = D := ⟨_, rfl⟩
    obtain ⟨W, hW⟩ : ∃ W, cW s = W := ⟨_, rfl⟩
    obtain ⟨hw0, hiM⟩ := qE_head he hW
    clear he
    obtain ⟨m, hm⟩ : ∃ m, iM W = m := ⟨_, rfl⟩
    obtain ⟨c, hc⟩ : ∃ c, cmpN W.data.toList D.data.toList = c := ⟨_, rfl⟩
    rw [hD, hW] at HC HM
    rw [hm] at hiM
    rw [hc] at HM
    rw [hD, hW, hm, hc]
    clear hD hW hm hc z1 z2
    rcases m with _ | _
    · by_cases hc2 : 0 < c
      · have q0 : decide ((0 : Int) < c) = true := by simp; omega
        simp only [hc2, or_true, if_true, show ¬ (2 : Int) = 0 by decide, if_false]
        clear hc2
        go_enter Tryz.func221, Tryz.ntmps221
        go_wp2_with fail
        refine HC.out.mono ?_; rintro e w1 ⟨rfl, hb1⟩
        have y1 := hid hb1; clear hb1
        go_wp2_with fail
        refine (HM _).out.mono ?_; rintro e w2 ⟨rfl, hb2⟩
        have y2 := hid (bnext y1.out hb2); clear hb2
        go_wp2_with fail
        go_ret3
        exact ⟨rfl, y2.out⟩
      · have q0 : decide ((0 : Int) < c) = false := by simp; omega
        simp only [hc2, Bool.false_eq_true, or_self, if_false]
        clear hc2
        by_cases hl1 : 1000 < W.size
        · have q1 : decide ((1000 : Int) < (W.size : Int)) = true := by simp; omega
          simp only [hl1, true_or, if_true, show ¬ (5 : Int) = 0 by decide, if_false]
          clear hl1
          go_enter Tryz.func221, Tryz.ntmps221
          go_wp2_with fail
          refine HC.out.mono ?_; rintro e w1 ⟨rfl, hb1⟩
          have y1 := hid hb1; clear hb1
          go_wp2_with fail
          refine (HM _).out.mono ?_; rintro e w2 ⟨rfl, hb2⟩
          have y2 := hid (bnext y1.out hb2); clear hb2
          go_wp2_with fail
          go_ret3
          exact ⟨rfl, y2.out⟩
        · have q1 : decide ((1000 : Int) < (W.size : Int)) = false := by simp; omega
          by_cases hl2 : 1000 < D.size
          · have q2 : decide ((1000 : Int) < (D.size : Int)) = true := by simp; omega
            simp only [hl2, or_true, if_true, show ¬ (5 : Int) = 0 by decide, if_false]
            clear hl1 hl2
            go_enter Tryz.func221, Tryz.ntmps221
            go_wp2_with fail
            refine HC.out.mono ?_; rintro e w1 ⟨rfl, hb1⟩
            have y1 := hid hb1; clear hb1
            go_wp2_with fail
            refine (HM _).out.mono ?_; rintro e w2 ⟨rfl, hb2⟩
            have y2 := hid (bnext y1.out hb2); clear hb2
            go_wp2_with fail
            go_ret3
            exact ⟨rfl, y2.out⟩
          · have q2 : decide ((1000 : Int) < (D.size : Int)) = false := by simp; omega
            simp only [hl1, hl2, or_self, if_false, if_true]
            clear hl1 hl2
            go_enter Tryz.func221, Tryz.ntmps221
            go_wp2_with fail
            refine HC.out.mono ?_; rintro e w1 ⟨rfl, hb1⟩
            have y1 := hid hb1; clear hb1
            go_wp2_with fail
            refine (HM _).out.mono ?_; rintro e w2 ⟨rfl, hb2⟩
            have y2 := hid (bnext y1.out hb2); clear hb2
            go_wp2_with fail
            go_ret3
            exact ⟨rfl, y2.out⟩
    · simp only [true_or, if_true, show ¬ (2 : Int) = 0 by decide, if_false]
      go_enter Tryz.func221, Tryz.ntmps221
      go_wp2_with fail
      refine HC.out.mono ?_; rintro e w1 ⟨rfl, hb1⟩
      have y1 := hid hb1; clear hb1
      go_wp2_with fail
      go_ret3
      exact ⟨rfl, y1.out⟩
  · have e1 : pW s = ⟨#[]⟩ := if_neg he
    have e2 : pD s = ⟨#[]⟩ := if_neg he
    have e3 : cPE s = qE s := by unfold cPE; rw [if_pos he]
    rw [e1, e2] at HC
    rw [e3, if_neg he, if_neg he]
    obtain ⟨x, hx⟩ : ∃ x, qE s = x := ⟨_, rfl⟩
    rw [hx] at HC he ⊢
    have q0 : (x == 0) = false := by simpa using he
    have q1 : (x != 0) = true := by simpa using he
    clear e1 e2 e3 hx z1 z2 HM
    go_enter Tryz.func221, Tryz.ntmps221
    go_wp2_with fail
    refine HC.out.mono ?_; rintro e w1 ⟨rfl, hb1⟩
    have y1 := hid hb1; clear hb1
    go_wp2_with fail
    go_ret3
    exact ⟨rfl, y1.out⟩
/-- The error of geom.ratio. -/
def gPE (s : ByteArray) : Int := if qE s ≠ 0 then qE s else if iM (cW s) = true ∨ 0 ≤ cmpN (cW s).data.toList (qD s).data.toList then 2 else if 1000 < (cW s).size ∨ 1000 < (qD s).size then 5 else 0
set_option maxRecDepth 100000 in
set_option maxHeartbeats 2000000 in
theorem g_ratio (w : World) (s : ByteArray) (hs : s.size ≤ 100000) (hL : Lay w) :
    Calls Tryz.prog 58 #[.string s] w fun e w' => e = .returned (.tuple #[.string (if gPE s = 0 then cW s else ⟨#[]⟩), .string (if gPE s = 0 then qD s else ⟨#[]⟩), .int .i64 (gPE s)]) ∧ Below w.heap.size w w' := by
  have HC := hid (q_Parts w s (by omega) hL)
  have z1 := cW_size s
  have z2 := qD_size s
  have HM := fun V => hid (n_Cmp V (cW s) (qD s) (by omega) (by omega))
  by_cases he : qE s = 0
  · have e1 : pW s = cW s := if_pos he
    have e2 : pD s = qD s := if_pos he
    rw [e1, e2, he] at HC
    have HE : gPE s = if iM (cW s) = true ∨ 0 ≤ cmpN (cW s).data.toList (qD s).data.toList then 2 else if 1000 < (cW s).size ∨ 1000 < (qD s).size then 5 else 0 := by
      unfold gPE
      rw [if_neg (fun h => h he)]
    rw [HE]
    clear HE e1 e2
    obtain ⟨D, hD⟩ : ∃ D, qD s = D := ⟨_, rfl⟩
    obtain ⟨W, hW⟩ : ∃ W, cW s = W := ⟨_, rfl⟩
    obtain ⟨hw0, hiM⟩ := qE_head he hW
    clear he
    obtain ⟨m, hm⟩ : ∃ m, iM W = m := ⟨_, rfl⟩
    obtain ⟨c, hc⟩ : ∃ c, cmpN W.data.toList D.data.toList = c := ⟨_, rfl⟩
    rw [hD, hW] at HC HM
    rw [hm] at hiM
    rw [hc] at HM
    rw [hD, hW, hm, hc]
    clear hD hW hm hc z1 z2
    rcases m with _ | _
    · by_cases hc2 : 0 ≤ c
      · have q0 : decide ((0 : Int) ≤ c) = true := by simp; omega
        simp only [hc2, or_true, if_true, show ¬ (2 : Int) = 0 by decide, if_false]
        clear hc2
        go_enter Tryz.func58, Tryz.ntmps58
        go_wp2_with fail
        refine HC.out.mono ?_; rintro e w1 ⟨rfl, hb1⟩
        have y1 := hid hb1; clear hb1
        go_wp2_with fail
        refine (HM _).out.mono ?_; rintro e w2 ⟨rfl, hb2⟩
        have y2 := hid (bnext y1.out hb2); clear hb2
        go_wp2_with fail
        go_ret3
        exact ⟨rfl, y2.out⟩
      · have q0 : decide ((0 : Int) ≤ c) = false := by simp; omega
        simp only [hc2, Bool.false_eq_true, or_self, if_false]
        clear hc2
        by_cases hl1 : 1000 < W.size
        · have q1 : decide ((1000 : Int) < (W.size : Int)) = true := by simp; omega
          simp only [hl1, true_or, if_true, show ¬ (5 : Int) = 0 by decide, if_false]
          clear hl1
          go_enter Tryz.func58, Tryz.ntmps58
          go_wp2_with fail
          refine HC.out.mono ?_; rintro e w1 ⟨rfl, hb1⟩
          have y1 := hid hb1; clear hb1
          go_wp2_with fail
          refine (HM _).out.mono ?_; rintro e w2 ⟨rfl, hb2⟩
          have y2 := hid (bnext y1.out hb2); clear hb2
          go_wp2_with fail
          go_ret3
          exact ⟨rfl, y2.out⟩
        · have q1 : decide ((1000 : Int) < (W.size : Int)) = false := by simp; omega
          by_cases hl2 : 1000 < D.size
          · have q2 : decide ((1000 : Int) < (D.size : Int)) = true := by simp; omega
            simp only [hl2, or_true, if_true, show ¬ (5 : Int) = 0 by decide, if_false]
            clear hl1 hl2
            go_enter Tryz.func58, Tryz.ntmps58
            go_wp2_with fail
            refine HC.out.mono ?_; rintro e w1 ⟨rfl, hb1⟩
            have y1 := hid hb1; clear hb1
            go_wp2_with fail
            refine (HM _).out.mono ?_; rintro e w2 ⟨rfl, hb2⟩
            have y2 := hid (bnext y1.out hb2); clear hb2
            go_wp2_with fail
            go_ret3
            exact ⟨rfl, y2.out⟩
          · have q2 : decide ((1000 : Int) < (D.size : Int)) = false := by simp; omega
            simp only [hl1, hl2, or_self, if_false, if_true]
            clear hl1 hl2
            go_enter Tryz.func58, Tryz.ntmps58
            go_wp2_with fail
            refine HC.out.mono ?_; rintro e w1 ⟨rfl, hb1⟩
            have y1 := hid hb1; clear hb1
            go_wp2_with fail
            refine (HM _).out.mono ?_; rintro e w2 ⟨rfl, hb2⟩
            have y2 := hid (bnext y1.out hb2); clear hb2
            go_wp2_with fail
            go_ret3
            exact ⟨rfl, y2.out⟩
    · simp only [true_or, if_true, show ¬ (2 : Int) = 0 by decide, if_false]
      go_enter Tryz.func58, Tryz.ntmps58
      go_wp2_with fail
      refine HC.out.mono ?_; rintro e w1 ⟨rfl, hb1⟩
      have y1 := hid hb1; clear hb1
      go_wp2_with fail
      go_ret3
      exact ⟨rfl, y1.out⟩
  · have e1 : pW s = ⟨#[]⟩ := if_neg he
    have e2 : pD s = ⟨#[]⟩ := if_neg he
    have e3 : gPE s = qE s := by unfold gPE; rw [if_pos he]
    rw [e1, e2] at HC
    rw [e3, if_neg he, if_neg he]
    obtain ⟨x, hx⟩ : ∃ x, qE s = x := ⟨_, rfl⟩
    rw [hx] at HC he ⊢
    have q0 : (x == 0) = false := by simpa using he
    have q1 : (x != 0) = true := by simpa using he
    clear e1 e2 e3 hx z1 z2 HM
    go_enter Tryz.func58, Tryz.ntmps58
    go_wp2_with fail
    refine HC.out.mono ?_; rintro e w1 ⟨rfl, hb1⟩
    have y1 := hid hb1; clear hb1
    go_wp2_with fail
    go_ret3
    exact ⟨rfl, y1.out⟩
end Go.Proofs.YtccalhlhdiapiaaGreatDoor
namespace Go.Proofs.YtccalhlhdiapiaaGreatDoor
open Go.RowKit
open Go.Lib (decDigits nDigits)
theorem numB_of {s : ByteArray} (h : fB s = true) : s = numB (bN s) := by
  have h1 := dec_of_form (formB_iff.1 h)
  apply ByteArray.ext
  show s.data = (decDigits (dv s.data.toList)).toArray
  rw [← h1]
theorem bN_lt {s : ByteArray} (h : fB s = true) (hs : ¬ 1000 < s.size) : bN s < 10 ^ eN := by
  have h1 := dv_lt (fB_dig h)
  have e : s.data.toList.length = s.size := Array.length_toList
  exact Nat.lt_of_lt_of_le h1 (Nat.pow_le_pow_right (by omega) (by rw [e]; unfold eN; omega))
theorem iD_plain {s : ByteArray} (h : iM s = false) : iD s = s := by
  unfold iM at h
  unfold iD Lib.trimPrefix
  rw [h]
  rfl
/-- The parts of a valid text that is not negative. -/
theorem parts_ok {p : ByteArray} (he : qE p = 0) (hm : ¬ iM (cW p) = true) (hl : ¬ (1000 < (cW p).size ∨ 1000 < (qD p).size)) :
    cW p = numB (bN (cW p)) ∧ qD p = numB (bN (qD p)) ∧ bN (cW p) < 10 ^ eN ∧ bN (qD p) < 10 ^ eN ∧ errN (cW p).data.toList = 0 ∧ errN (qD p).data.toList = 0 := by
  have h1 := qE_zero he
  have hm' : iM (cW p) = false := by simpa using hm
  have hW : fB (cW p) = true := by
    have := iB_form (qB_whole h1.1)
    rwa [iD_plain hm'] at this
  have hD := qB_below h1.1
  have l1 : ¬ 1000 < (cW p).size := fun h => hl (.inl h)
  have l2 : ¬ 1000 < (qD p).size := fun h => hl (.inr h)
  have s1 : (cW p).data.toList.length = (cW p).size := Array.length_toList
  have s2 : (qD p).data.toList.length = (qD p).size := Array.length_toList
  exact ⟨numB_of hW, numB_of hD, bN_lt hW l1, bN_lt hD l2, errN_ok (formB_iff.1 hW) (by omega), errN_ok (formB_iff.1 hD) (by omega)⟩
end Go.Proofs.YtccalhlhdiapiaaGreatDoor
namespace Go.Proofs.YtccalhlhdiapiaaGreatDoor
open Go.RowKit
open Go.Lib (decDigits nDigits)
theorem toss_done {N D K T : Nat} {l : List UInt8} (h : sdB N D K T = true) : toss N D K T l = (true, sdV N D K T, 0) := by
  rw [toss.eq_def]; dsimp only; rw [if_pos h]
theorem toss_late {N D K T : Nat} (h : sdB N D K T = false) : toss N D K T [] = (false, 0, 0) := by
  rw [toss.eq_def]; dsimp only; rw [if_neg (by simp [h])]
theorem toss_next {N D K T : Nat} {b : UInt8} {r : List UInt8} (h : sdB N D K T = false) : toss N D K T (b :: r) = ((toss N D (2 * K + (if b = 49 then 1 else 0)) (2 * T) r).1, (toss N D (2 * K + (if b = 49 then 1 else 0)) (2 * T) r).2.1, (toss N D (2 * K + (if b = 49 then 1 else 0)) (2 * T) r).2.2 + 1) := by
  rw [toss.eq_def]; dsimp only; rw [if_neg (by simp [h])]
/-- The result behind u bits. -/
def tossAt (N D : Nat) (l : List UInt8) (K T u : Nat) : Bool × Nat × Nat := let x := toss N D K T (l.drop u); (x.1, x.2.1, x.2.2 + u)
theorem tossAt_done {N D K T u : Nat} {l : List UInt8} (h : sdB N D K T = true) : tossAt N D l K T u = (true, sdV N D K T, u) := by
  unfold tossAt; rw [toss_done h]; simp
theorem tossAt_late {N D K T : Nat} {l : List UInt8} (h : sdB N D K T = false) : tossAt N D l K T l.length = (false, 0, l.length) := by
  unfold tossAt; rw [List.drop_length, toss_late h]; simp
theorem tossAt_next {N D K T u : Nat} {l : List UInt8} (h : sdB N D K T = false) (hu : u < l.length) : tossAt N D l K T u = tossAt N D l (K + K + (if l[u] = 49 then 1 else 0)) (T + T) (u + 1) := by
  unfold tossAt
  rw [List.drop_eq_getElem_cons hu, toss_next h, Nat.two_mul, Nat.two_mul]
  simp only [Prod.mk.injEq, true_and]
  omega
/-- The cell of K among T = 2 ^ u. -/
structure Cell (K T u : Nat) : Prop where
  t : T = 2 ^ u
  k : K < T
theorem Cell.next {K T u x : Nat} (h : Cell K T u) (hx : x ≤ 1) : Cell (K + K + x) (T + T) (u + 1) := by
  refine ⟨?_, ?_⟩
  · rw [h.t, Nat.pow_succ]; omega
  · have := h.k; omega
theorem Cell.fits {N D K T u : Nat} (h : Cell K T u) (hu : u ≤ 256) (hN : N < 10 ^ eN) (hD : D < 10 ^ eN) : Fits N D K T := by
  have h1 : 2 ^ u ≤ 2 ^ 256 := Nat.pow_le_pow_right (by omega) hu
  have h2 : 2 ^ 256 < 10 ^ eK := by decide
  have ht := h.t
  have hk := h.k
  exact ⟨hN, hD, by omega, by omega⟩
theorem cPE_ok {p : ByteArray} (h : cPE p = 0) : cW p = numB (bN (cW p)) ∧ qD p = numB (bN (qD p)) ∧ bN (cW p) < 10 ^ eN ∧ bN (qD p) < 10 ^ eN ∧ bN (cW p) ≤ bN (qD p) := by
  unfold cPE at h
  split at h
  · rename_i he
    exact absurd h he
  · rename_i he
    have he' : qE p = 0 := Decidable.not_not.1 he
    split at h
    · cases h
    · rename_i h2
      split at h
      · cases h
      · rename_i h3
        obtain ⟨a, b, c, d, e1, e2⟩ := parts_ok he' (fun h => h2 (.inl h)) h3
        refine ⟨a, b, c, d, ?_⟩
        have h4 : ¬ 0 < cmpN (cW p).data.toList (qD p).data.toList := fun h => h2 (.inr h)
        rw [cmpN, if_pos ⟨e1, e2⟩, ordN] at h4
        show dv _ ≤ dv _
        split at h4
        · omega
        · split at h4
          · simp at h4
          · omega
end Go.Proofs.YtccalhlhdiapiaaGreatDoor
namespace Go.Proofs.YtccalhlhdiapiaaGreatDoor
open Go.RowKit
open Go.Lib (decDigits nDigits)
theorem toss_used (N D : Nat) : ∀ (l : List UInt8) (K T : Nat), (toss N D K T l).2.2 ≤ l.length
  | [], K, T => by
    cases h : sdB N D K T
    · rw [toss_late h]; simp
    · rw [toss_done h]; simp
  | b :: r, K, T => by
    cases h : sdB N D K T
    · rw [toss_next h]
      have := toss_used N D r (2 * K + (if b = 49 then 1 else 0)) (2 * T)
      simp only [List.length_cons]
      omega
    · rw [toss_done h]; simp
theorem toss_val (N D : Nat) : ∀ (l : List UInt8) (K T : Nat), (toss N D K T l).2.1 ≤ 1
  | [], K, T => by
    cases h : sdB N D K T
    · rw [toss_late h]; simp
    · rw [toss_done h]; simp only [sdV]; split <;> omega
  | b :: r, K, T => by
    cases h : sdB N D K T
    · rw [toss_next h]
      exact toss_val N D r _ _
    · rw [toss_done h]; simp only [sdV]; split <;> omega
/-- With a ratio below 1 no coin comes up 1 without a bit. -/
theorem toss_one {N D : Nat} (h : N < D) {l : List UInt8} (hd : (toss N D 0 1 l).1 = true) (hv : (toss N D 0 1 l).2.1 = 1) : 1 ≤ (toss N D 0 1 l).2.2 := by
  cases hs : sdB N D 0 1
  · cases l with
    | nil => rw [toss_late hs] at hd; cases hd
    | cons b r => rw [toss_next hs]; simp
  · rw [toss_done hs] at hv
    simp only [sdV, Nat.mul_one, Nat.zero_mul] at hv
    simp only [sdB, Nat.mul_one, Nat.zero_mul, Nat.zero_add, Bool.or_eq_true, decide_eq_true_eq] at hs
    split at hv
    · cases hv
    · omega
/-- The coin read from position p on. -/
def coinF (N D : Nat) (l : List UInt8) (p : Nat) : Bool × Nat × Nat := tossAt N D (l.drop p) 0 1 0
theorem coinF_eq (N D : Nat) (l : List UInt8) (p : Nat) : coinF N D l p = toss N D 0 1 (l.drop p) := by simp [coinF, tossAt]
/-- Where the coins before end. -/
def posOf (pre : List (Nat × Nat)) : Nat := match pre.getLast? with | some x => x.1 | none => 0
theorem posOf_nil : posOf [] = 0 := rfl
theorem posOf_snoc (pre : List (Nat × Nat)) (x : Nat × Nat) : posOf (pre ++ [x]) = x.1 := by simp [posOf]
theorem coinF_le {N D : Nat} {l : List UInt8} {p : Nat} (hp : p ≤ l.length) : p + (coinF N D l p).2.2 ≤ l.length := by
  rw [coinF_eq]
  have := toss_used N D (l.drop p) 0 1
  rw [List.length_drop] at this
  omega
end Go.Proofs.YtccalhlhdiapiaaGreatDoor
namespace Go.Proofs.YtccalhlhdiapiaaGreatDoor
open Go.RowKit
open Go.Lib (decDigits nDigits)
/-- Series from position p on, m of them still to come: the values so far, the count of the series under way. -/
def ser (N D : Nat) (l : List UInt8) : Nat → Nat → Nat → List Nat → Nat → Option (List Nat × Nat)
  | 0, _, _, _, _ => none
  | f + 1, m, p, vs, n =>
    if (coinF N D l p).1 = false then none
    else if (coinF N D l p).2.1 = 1 then ser N D l f m (p + (coinF N D l p).2.2) vs (n + 1)
    else if m ≤ 1 then some (vs ++ [n], p + (coinF N D l p).2.2)
    else ser N D l f (m - 1) (p + (coinF N D l p).2.2) (vs ++ [n]) 0
theorem coinF_one {N D : Nat} (h : N < D) {l : List UInt8} {p : Nat} (hd : (coinF N D l p).1 = true) (hv : (coinF N D l p).2.1 = 1) : 1 ≤ (coinF N D l p).2.2 := by
  rw [coinF_eq] at *
  exact toss_one h hd hv
/-- More rounds than are needed change nothing. -/
theorem ser_fuel {N D : Nat} (h : N < D) {l : List UInt8} : ∀ (f f' m p : Nat) (vs : List Nat) (n : Nat), 1 ≤ m → p ≤ l.length → l.length - p + m ≤ f → l.length - p + m ≤ f' → ser N D l f m p vs n = ser N D l f' m p vs n := by
  intro f
  induction f with
  | zero => intro f' m p vs n hm hp h1 h2; omega
  | succ f ih =>
    intro f' m p vs n hm hp h1 h2
    cases f' with
    | zero => omega
    | succ f' =>
      have hle := coinF_le (N := N) (D := D) hp
      simp only [ser]
      split
      · rfl
      · rename_i hd
        have hd' : (coinF N D l p).1 = true := by simpa using hd
        split
        · rename_i hv
          have := coinF_one h hd' hv
          exact ih _ _ _ _ _ hm hle (by omega) (by omega)
        · split
          · rfl
          · exact ih _ _ _ _ _ (by omega) hle (by omega) (by omega)
/-- Series, with as many rounds as are needed. -/
def sr (N D : Nat) (l : List UInt8) (m p : Nat) (vs : List Nat) (n : Nat) : Option (List Nat × Nat) := ser N D l (l.length - p + m) m p vs n
theorem sr_of {N D : Nat} (h : N < D) {l : List UInt8} {f m p n : Nat} {vs : List Nat} (hm : 1 ≤ m) (hp : p ≤ l.length) (hf : l.length - p + m ≤ f) : ser N D l f m p vs n = sr N D l m p vs n := ser_fuel h _ _ _ _ _ _ hm hp hf (Nat.le_refl _)
theorem sr_unfold {N D : Nat} {l : List UInt8} {m p n : Nat} {vs : List Nat} (hm : 1 ≤ m) : sr N D l m p vs n = ser N D l ((l.length - p + m - 1) + 1) m p vs n := by
  unfold sr
  rw [show l.length - p + m - 1 + 1 = l.length - p + m by omega]
theorem sr_late {N D : Nat} {l : List UInt8} {m p n : Nat} {vs : List Nat} (hm : 1 ≤ m) (hd : (coinF N D l p).1 = false) : sr N D l m p vs n = none := by
  rw [sr_unfold hm, ser, if_pos hd]
theorem sr_one {N D : Nat} (h : N < D) {l : List UInt8} {m p n : Nat} {vs : List Nat} (hm : 1 ≤ m) (hp : p ≤ l.length) (hd : (coinF N D l p).1 = true) (hv : (coinF N D l p).2.1 = 1) : sr N D l m p vs n = sr N D l m (p + (coinF N D l p).2.2) vs (n + 1) := by
  have hle := coinF_le (N := N) (D := D) hp
  have := coinF_one h hd hv
  rw [sr_unfold hm, ser, if_neg (by simp [hd]), if_pos hv]
  exact sr_of h hm hle (by omega)
theorem sr_stop {N D : Nat} {l : List UInt8} {p n : Nat} {vs : List Nat} (hd : (coinF N D l p).1 = true) (hv : ¬ (coinF N D l p).2.1 = 1) : sr N D l 1 p vs n = some (vs ++ [n], p + (coinF N D l p).2.2) := by
  rw [sr_unfold (Nat.le_refl 1), ser, if_neg (by simp [hd]), if_neg hv, if_pos (Nat.le_refl 1)]
theorem sr_more {N D : Nat} (h : N < D) {l : List UInt8} {m p n : Nat} {vs : List Nat} (hm : 2 ≤ m) (hp : p ≤ l.length) (hd : (coinF N D l p).1 = true) (hv : ¬ (coinF N D l p).2.1 = 1) : sr N D l m p vs n = sr N D l (m - 1) (p + (coinF N D l p).2.2) (vs ++ [n]) 0 := by
  have hle := coinF_le (N := N) (D := D) hp
  rw [sr_unfold (by omega), ser, if_neg (by simp [hd]), if_neg hv, if_neg (by omega)]
  exact sr_of h (by omega) hle (by omega)
/-- What one series gives, from position p on with n ones so far. -/
def s1 (N D : Nat) (l : List UInt8) (p n : Nat) : Option (Nat × Nat) := match sr N D l 1 p [] n with | some (x :: _, at') => some (x, at') | _ => none
theorem sr_one_eq {N D : Nat} (h : N < D) {l : List UInt8} : ∀ (f p : Nat) (vs : List Nat) (n : Nat), p ≤ l.length → l.length - p ≤ f → sr N D l 1 p vs n = match s1 N D l p n with | some (x, a) => some (vs ++ [x], a) | none => none := by
  intro f
  induction f with
  | zero =>
    intro p vs n hp hf
    cases hd : (coinF N D l p).1
    · rw [s1, sr_late (Nat.le_refl 1) hd, sr_late (Nat.le_refl 1) hd]
    · by_cases hv : (coinF N D l p).2.1 = 1
      · have := coinF_one h hd hv
        have := coinF_le (N := N) (D := D) hp
        omega
      · rw [s1, sr_stop hd hv, sr_stop hd hv]
        rfl
  | succ f ih =>
    intro p vs n hp hf
    cases hd : (coinF N D l p).1
    · rw [s1, sr_late (Nat.le_refl 1) hd, sr_late (Nat.le_refl 1) hd]
    · by_cases hv : (coinF N D l p).2.1 = 1
      · have := coinF_one h hd hv
        have hle := coinF_le (N := N) (D := D) hp
        rw [s1, sr_one h (Nat.le_refl 1) hp hd hv, sr_one h (Nat.le_refl 1) hp hd hv, ih _ _ _ hle (by omega)]
        rfl
      · rw [s1, sr_stop hd hv, sr_stop hd hv]
        rfl
/-- The end of one series lies within. -/
theorem s1_le {N D : Nat} (h : N < D) {l : List UInt8} : ∀ (f p n x a : Nat), p ≤ l.length → l.length - p ≤ f → s1 N D l p n = some (x, a) → p ≤ a ∧ a ≤ l.length ∧ x ≤ n + (a - p) := by
  intro f
  induction f with
  | zero =>
    intro p n x a hp hf hs
    cases hd : (coinF N D l p).1
    · rw [s1, sr_late (Nat.le_refl 1) hd] at hs; cases hs
    · by_cases hv : (coinF N D l p).2.1 = 1
      · have := coinF_one h hd hv
        have := coinF_le (N := N) (D := D) hp
        omega
      · rw [s1, sr_stop hd hv] at hs
        simp at hs
        have := coinF_le (N := N) (D := D) hp
        omega
  | succ f ih =>
    intro p n x a hp hf hs
    cases hd : (coinF N D l p).1
    · rw [s1, sr_late (Nat.le_refl 1) hd] at hs; cases hs
    · by_cases hv : (coinF N D l p).2.1 = 1
      · have := coinF_one h hd hv
        have hle := coinF_le (N := N) (D := D) hp
        rw [s1, sr_one h (Nat.le_refl 1) hp hd hv] at hs
        have := ih _ _ _ _ hle (by omega) hs
        omega
      · rw [s1, sr_stop hd hv] at hs
        simp at hs
        have := coinF_le (N := N) (D := D) hp
        omega
/-- Two series are one behind the other. -/
theorem sr_two {N D : Nat} (h : N < D) {l : List UInt8} : ∀ (f p : Nat) (vs : List Nat) (n : Nat), p ≤ l.length → l.length - p ≤ f → sr N D l 2 p vs n = match s1 N D l p n with
    | some (x, a) => sr N D l 1 a (vs ++ [x]) 0
    | none => none := by
  intro f
  induction f with
  | zero =>
    intro p vs n hp hf
    cases hd : (coinF N D l p).1
    · rw [s1, sr_late (by omega) hd, sr_late (Nat.le_refl 1) hd]
    · by_cases hv : (coinF N D l p).2.1 = 1
      · have := coinF_one h hd hv
        have := coinF_le (N := N) (D := D) hp
        omega
      · rw [s1, sr_stop hd hv, sr_more h (Nat.le_refl 2) hp hd hv]
        rfl
  | succ f ih =>
    intro p vs n hp hf
    cases hd : (coinF N D l p).1
    · rw [s1, sr_late (by omega) hd, sr_late (Nat.le_refl 1) hd]
    · by_cases hv : (coinF N D l p).2.1 = 1
      · have := coinF_one h hd hv
        have hle := coinF_le (N := N) (D := D) hp
        rw [s1, sr_one h (by omega) hp hd hv, sr_one h (Nat.le_refl 1) hp hd hv, ih _ _ _ hle (by omega)]
        rfl
      · rw [s1, sr_stop hd hv, sr_more h (Nat.le_refl 2) hp hd hv]
        rfl
theorem coinF_drop (N D : Nat) (l : List UInt8) (a q : Nat) : coinF N D (l.drop a) q = coinF N D l (a + q) := by
  unfold coinF; rw [List.drop_drop]
/-- A series that begins at a is that of the rest. -/
theorem s1_drop {N D : Nat} (h : N < D) {l : List UInt8} {a : Nat} (ha : a ≤ l.length) : ∀ (f q n : Nat), a + q ≤ l.length → l.length - (a + q) ≤ f → s1 N D l (a + q) n = (s1 N D (l.drop a) q n).map (fun x => (x.1, a + x.2)) := by
  intro f
  induction f with
  | zero =>
    intro q n hp hf
    have hc := coinF_drop N D l a q
    cases hd : (coinF N D l (a + q)).1
    · rw [s1, s1, sr_late (Nat.le_refl 1) hd, sr_late (Nat.le_refl 1) (by rw [hc]; exact hd)]
      rfl
    · by_cases hv : (coinF N D l (a + q)).2.1 = 1
      · have := coinF_one h hd hv
        have := coinF_le (N := N) (D := D) hp
        omega
      · rw [s1, s1, sr_stop hd hv, sr_stop (by rw [hc]; exact hd) (by rw [hc]; exact hv), hc]
        simp [Nat.add_assoc]
  | succ f ih =>
    intro q n hp hf
    have hc := coinF_drop N D l a q
    cases hd : (coinF N D l (a + q)).1
    · rw [s1, s1, sr_late (Nat.le_refl 1) hd, sr_late (Nat.le_refl 1) (by rw [hc]; exact hd)]
      rfl
    · by_cases hv : (coinF N D l (a + q)).2.1 = 1
      · have := coinF_one h hd hv
        have hle := coinF_le (N := N) (D := D) hp
        have ih' := ih (q + (coinF N D l (a + q)).2.2) (n + 1) (by omega) (by omega)
        rw [← Nat.add_assoc] at ih'
        rw [s1, s1, sr_one h (Nat.le_refl 1) hp hd hv, sr_one (l := l.drop a) (p := q) h (Nat.le_refl 1) (by rw [List.length_drop]; omega) (by rw [hc]; exact hd) (by rw [hc]; exact hv), hc]
        exact ih'
      · rw [s1, s1, sr_stop hd hv, sr_stop (by rw [hc]; exact hd) (by rw [hc]; exact hv), hc]
        simp [Nat.add_assoc]
end Go.Proofs.YtccalhlhdiapiaaGreatDoor
namespace Go.Proofs.YtccalhlhdiapiaaGreatDoor
open Go.RowKit
set_option linter.unusedVariables false
theorem s1_lateC {N D : Nat} {l : List UInt8} {p n : Nat} (hd : (coinF N D l p).1 = false) : s1 N D l p n = none := by
  unfold s1; rw [sr_late (Nat.le_refl 1) hd]
theorem s1_moreC {N D : Nat} (h : N < D) {l : List UInt8} {p n : Nat} (hp : p ≤ l.length) (hd : (coinF N D l p).1 = true) (hv : (coinF N D l p).2.1 = 1) : s1 N D l p n = s1 N D l (p + (coinF N D l p).2.2) (n + 1) := by
  unfold s1; rw [sr_one h (Nat.le_refl 1) hp hd hv]
theorem s1_stopC {N D : Nat} {l : List UInt8} {p n : Nat} (hd : (coinF N D l p).1 = true) (hv : ¬ (coinF N D l p).2.1 = 1) : s1 N D l p n = some (n, p + (coinF N D l p).2.2) := by
  unfold s1; rw [sr_stop hd hv]; rfl
/-- A count that begins later ends later. -/
theorem s1_shift {N D : Nat} (h : N < D) {l : List UInt8} : ∀ (f p n : Nat), p ≤ l.length → l.length - p ≤ f → s1 N D l p (n + 1) = (s1 N D l p n).map (fun x => (x.1 + 1, x.2)) := by
  intro f
  induction f with
  | zero =>
    intro p n hp hf
    cases hd : (coinF N D l p).1
    · rw [s1_lateC hd, s1_lateC hd]; rfl
    · by_cases hv : (coinF N D l p).2.1 = 1
      · have := coinF_one h hd hv
        have := coinF_le (N := N) (D := D) hp
        omega
      · rw [s1_stopC hd hv, s1_stopC hd hv]; rfl
  | succ f ih =>
    intro p n hp hf
    cases hd : (coinF N D l p).1
    · rw [s1_lateC hd, s1_lateC hd]; rfl
    · by_cases hv : (coinF N D l p).2.1 = 1
      · have := coinF_one h hd hv
        have hle := coinF_le (N := N) (D := D) hp
        rw [s1_moreC h hp hd hv, s1_moreC h hp hd hv, ih _ (n + 1) hle (by omega)]
      · rw [s1_stopC hd hv, s1_stopC hd hv]; rfl
/-- One series ends with the value i. -/
def oneP (N D i : Nat) (l : List UInt8) : Bool := match s1 N D l 0 0 with | none => false | some (x, _) => decide (x = i)
/-- Two series end with the values i and k. -/
def twoP (N D i k : Nat) (l : List UInt8) : Bool := match s1 N D l 0 0 with | none => false | some (x, p) => decide (x = i) && oneP N D k (l.drop p)
/-- What the first coin says of a series. -/
theorem s1_coin {N D : Nat} (h : N < D) (l : List UInt8) : s1 N D l 0 0 = if (toss N D 0 1 l).1 = true then (if (toss N D 0 1 l).2.1 = 1 then (s1 N D (l.drop (toss N D 0 1 l).2.2) 0 0).map (fun x => (x.1 + 1, (toss N D 0 1 l).2.2 + x.2)) else some (0, (toss N D 0 1 l).2.2)) else none := by
  have e := coinF_eq N D l 0
  rw [List.drop_zero] at e
  cases hd : (toss N D 0 1 l).1
  · rw [s1_lateC (by rw [e]; exact hd)]; rfl
  · rw [if_pos rfl]
    by_cases hv : (toss N D 0 1 l).2.1 = 1
    · have hle := coinF_le (N := N) (D := D) (l := l) (p := 0) (Nat.zero_le _)
      rw [e, Nat.zero_add] at hle
      rw [if_pos hv, s1_moreC h (Nat.zero_le _) (by rw [e]; exact hd) (by rw [e]; exact hv), e, s1_shift h l.length _ _ (by omega) (by omega)]
      have := s1_drop h (l := l) (a := (toss N D 0 1 l).2.2) (by omega) l.length 0 0 (by omega) (by omega)
      rw [Nat.add_zero] at this
      rw [Nat.zero_add, this, Option.map_map]
      rfl
    · rw [if_neg hv, s1_stopC (by rw [e]; exact hd) (by rw [e]; exact hv), e, Nat.zero_add]
theorem oneP_coin {N D : Nat} (h : N < D) (i : Nat) (l : List UInt8) : oneP N D i l = coinP N D 0 1 (match i with | 0 => fun _ => false | i + 1 => oneP N D i) (fun _ => decide (i = 0)) l := by
  unfold coinP
  rw [oneP, s1_coin h]
  cases hd : (toss N D 0 1 l).1
  · rfl
  · rw [if_pos rfl, Bool.true_and]
    by_cases hv : (toss N D 0 1 l).2.1 = 1
    · rw [if_pos hv, if_pos hv]
      cases i with
      | zero =>
        cases s1 N D (l.drop (toss N D 0 1 l).2.2) 0 0 with
        | none => rfl
        | some x => simp
      | succ i =>
        show _ = oneP N D i (l.drop (toss N D 0 1 l).2.2)
        rw [oneP]
        cases s1 N D (l.drop (toss N D 0 1 l).2.2) 0 0 with
        | none => rfl
        | some x => simp
    · rw [if_neg hv, if_neg hv]
      simp only [eq_comm]
theorem twoP_coin {N D : Nat} (h : N < D) (i k : Nat) (l : List UInt8) : twoP N D i k l = coinP N D 0 1 (match i with | 0 => fun _ => false | i + 1 => twoP N D i k) (fun r => decide (i = 0) && oneP N D k r) l := by
  unfold coinP
  rw [twoP, s1_coin h]
  cases hd : (toss N D 0 1 l).1
  · rfl
  · rw [if_pos rfl, Bool.true_and]
    by_cases hv : (toss N D 0 1 l).2.1 = 1
    · rw [if_pos hv, if_pos hv]
      cases i with
      | zero =>
        cases s1 N D (l.drop (toss N D 0 1 l).2.2) 0 0 with
        | none => rfl
        | some x => simp
      | succ i =>
        show _ = twoP N D i k (l.drop (toss N D 0 1 l).2.2)
        rw [twoP]
        cases s1 N D (l.drop (toss N D 0 1 l).2.2) 0 0 with
        | none => rfl
        | some x => simp [List.drop_drop]
    · rw [if_neg hv, if_neg hv]
      simp only [eq_comm]
/-- How many words of a length leave a series open behind i ones, end it with the value i, with their last bit. -/
def opn (N D : Nat) : Nat → Nat → Nat
  | 0 => dlt
  | i + 1 => cvo (chi (oneJ N D)) (opn N D i)
def edn (N D i : Nat) : Nat → Nat := cvo (chi (zeroJ N D)) (opn N D i)
theorem cvo_zero (f : Nat → Nat) (n : Nat) : cvo f (fun _ => 0) n = 0 := by
  unfold cvo
  rw [sumN_congr (d := fun _ => 0) (fun i _ => Nat.mul_zero _)]
  exact sumN_zero _
theorem cvo_swap (f g h : Nat → Nat) (n : Nat) : cvo f (cvo g h) n = cvo g (cvo f h) n := by
  rw [← cvo_assoc, ← cvo_assoc]
  exact cvo_congr (fun s _ => cvo_comm f g s) fun _ _ => rfl
theorem edn_zero (N D m : Nat) : edn N D 0 m = chi (zeroJ N D) m := by
  unfold edn opn
  rw [cvo_comm, cvo_dlt]
theorem edn_succ (N D i m : Nat) : edn N D (i + 1) m = cvo (chi (oneJ N D)) (edn N D i) m := by
  unfold edn
  rw [opn]
  exact cvo_swap _ _ _ _
theorem cw_oneP {N D : Nat} (h : N < D) : ∀ i n, cw n (oneP N D i) = cvo (edn N D i) pw2 n
  | 0, n => by
    rw [cw_congr (Q := coinP N D 0 1 (fun _ => false) (fun _ => true)) (fun l _ => oneP_coin h 0 l), cw_first h, cvo_congr (f' := chi (oneJ N D)) (g' := fun _ => 0) (fun _ _ => rfl) (fun m _ => cw_false m), cvo_zero, Nat.zero_add]
    exact cvo_congr (fun s _ => (edn_zero N D s).symm) fun m _ => cw_true m
  | i + 1, n => by
    rw [cw_congr (Q := coinP N D 0 1 (oneP N D i) (fun _ => false)) (fun l _ => oneP_coin h (i + 1) l), cw_first h, cvo_congr (f := chi (zeroJ N D)) (f' := chi (zeroJ N D)) (g' := fun _ => 0) (fun _ _ => rfl) (fun m _ => cw_false m), cvo_zero, Nat.add_zero]
    rw [cvo_congr (f' := chi (oneJ N D)) (g' := cvo (edn N D i) pw2) (fun _ _ => rfl) (fun m _ => cw_oneP h i m), ← cvo_assoc]
    exact cvo_congr (fun s _ => (edn_succ N D i s).symm) fun _ _ => rfl
theorem cw_twoP {N D : Nat} (h : N < D) (k : Nat) : ∀ i n, cw n (twoP N D i k) = cvo (edn N D i) (cvo (edn N D k) pw2) n
  | 0, n => by
    rw [cw_congr (Q := coinP N D 0 1 (fun _ => false) (oneP N D k)) (fun l _ => by rw [twoP_coin h 0 k l]; rfl), cw_first h, cvo_congr (f' := chi (oneJ N D)) (g' := fun _ => 0) (fun _ _ => rfl) (fun m _ => cw_false m), cvo_zero, Nat.zero_add]
    exact cvo_congr (fun s _ => (edn_zero N D s).symm) fun m _ => cw_oneP h k m
  | i + 1, n => by
    rw [cw_congr (Q := coinP N D 0 1 (twoP N D i k) (fun _ => false)) (fun l _ => by rw [twoP_coin h (i + 1) k l]; rfl), cw_first h, cvo_congr (f := chi (zeroJ N D)) (f' := chi (zeroJ N D)) (g' := fun _ => 0) (fun _ _ => rfl) (fun m _ => cw_false m), cvo_zero, Nat.add_zero]
    rw [cvo_congr (f' := chi (oneJ N D)) (g' := cvo (edn N D i) (cvo (edn N D k) pw2)) (fun _ _ => rfl) (fun m _ => cw_twoP h k i m), ← cvo_assoc]
    exact cvo_congr (fun s _ => (edn_succ N D i s).symm) fun _ _ => rfl
end Go.Proofs.YtccalhlhdiapiaaGreatDoor
namespace Go.Proofs.YtccalhlhdiapiaaGreatDoor
open Go.RowKit
set_option linter.unusedVariables false
/-- The value of a draw of one series, of two. -/
def valT (N D : Nat) (two : Bool) (l : List UInt8) : Option Int := match s1 N D l 0 0 with
  | none => none
  | some (x, p) => if two = true then (match s1 N D (l.drop p) 0 0 with | none => none | some (y, _) => some ((x : Int) - (y : Int))) else some (x : Int)
/-- How many words of n bits give v; are late. -/
def gV (N D : Nat) (two : Bool) (n : Nat) (v : Int) : Nat := cw n fun l => decide (valT N D two l = some v)
def gL (N D : Nat) (two : Bool) (n : Nat) : Nat := cw n fun l => decide (valT N D two l = none)
theorem s1_bd {N D : Nat} (h : N < D) {l : List UInt8} {x p : Nat} (hs : s1 N D l 0 0 = some (x, p)) : p ≤ l.length ∧ x ≤ l.length := by
  have := s1_le h l.length 0 0 x p (Nat.zero_le _) (by omega) hs
  omega
theorem valT_bd {N D : Nat} (h : N < D) {two : Bool} {l : List UInt8} {v : Int} (hv : valT N D two l = some v) : -(l.length : Int) ≤ v ∧ v ≤ l.length := by
  unfold valT at hv
  cases hs : s1 N D l 0 0 with
  | none => rw [hs] at hv; cases hv
  | some xp =>
    obtain ⟨x, p⟩ := xp
    obtain ⟨b1, b2⟩ := s1_bd h hs
    rw [hs] at hv
    cases two
    · simp at hv; omega
    · simp only [if_true] at hv
      cases hs2 : s1 N D (l.drop p) 0 0 with
      | none => rw [hs2] at hv; cases hv
      | some yq =>
        obtain ⟨y, q⟩ := yq
        obtain ⟨b3, b4⟩ := s1_bd h hs2
        rw [hs2] at hv
        rw [List.length_drop] at b4
        simp at hv; omega
theorem cw_none {n : Nat} {P : List UInt8 → Bool} (h : ∀ l, l.length = n → P l = false) : cw n P = 0 := by
  rw [cw_congr (Q := fun _ => false) h, cw_false]
theorem gV_out {N D : Nat} (h : N < D) {two : Bool} {n : Nat} {v : Int} (hv : v < -(n : Int) ∨ (n : Int) < v) : gV N D two n v = 0 := by
  refine cw_none fun l hl => decide_eq_false fun e => ?_
  have := valT_bd h e
  omega
theorem gV_one (N D n : Nat) (v : Int) : gV N D false n v = if 0 ≤ v then cw n (oneP N D v.toNat) else 0 := by
  unfold gV
  split
  · rename_i h0
    refine cw_congr fun l hl => ?_
    unfold valT oneP
    cases s1 N D l 0 0 with
    | none => rfl
    | some xp =>
      obtain ⟨x, p⟩ := xp
      simp only [Bool.false_eq_true, if_false]
      rw [decide_eq_decide, Option.some.injEq]
      omega
  · rename_i h0
    refine cw_none fun l hl => decide_eq_false fun e => ?_
    unfold valT at e
    cases hs : s1 N D l 0 0 with
    | none => rw [hs] at e; cases e
    | some xp => rw [hs] at e; simp at e; omega
/-- Words are counted by what they give. -/
theorem countP_pairs {α : Type} (g : α → Option (Nat × Nat)) (Q : Nat → Nat → Bool) (M : Nat) : ∀ L : List α, (∀ x ∈ L, ∀ i k, g x = some (i, k) → i < M ∧ k < M) →
    L.countP (fun x => match g x with | none => false | some p => Q p.1 p.2) = sumN (fun i => sumN (fun k => if Q i k = true then L.countP (fun x => decide (g x = some (i, k))) else 0) M) M
  | [], _ => by
    have h2 : ∀ i, sumN (fun k => if Q i k = true then ([] : List α).countP (fun x => decide (g x = some (i, k))) else 0) M = 0 := fun i => by
      rw [sumN_congr (d := fun _ => 0) (fun k _ => by simp), sumN_zero]
    rw [sumN_congr (d := fun _ => 0) (fun i _ => h2 i), sumN_zero]; rfl
  | x :: r, h => by
    have ih := countP_pairs g Q M r fun y hy => h y (List.mem_cons_of_mem _ hy)
    have e : ∀ i, sumN (fun k => if Q i k = true then (x :: r).countP (fun x => decide (g x = some (i, k))) else 0) M = sumN (fun k => if Q i k = true then r.countP (fun x => decide (g x = some (i, k))) else 0) M + sumN (fun k => if Q i k = true ∧ g x = some (i, k) then 1 else 0) M := fun i => by
      rw [← sumN_add]
      refine sumN_congr fun k _ => ?_
      rw [List.countP_cons]
      by_cases h1 : Q i k = true
      · rw [if_pos h1, if_pos h1]
        congr 1
        simp [h1]
      · rw [if_neg h1, if_neg h1, if_neg (fun hh => h1 hh.1)]
    rw [List.countP_cons, ih, sumN_congr (fun i _ => e i), sumN_add]
    congr 1
    cases hg : g x with
    | none =>
      rw [sumN_congr (d := fun _ => 0) (fun i _ => by rw [sumN_congr (d := fun _ => 0) (fun k _ => by simp), sumN_zero]), sumN_zero]
      simp
    | some p =>
      obtain ⟨a, b⟩ := p
      obtain ⟨ha, hb⟩ := h x (List.mem_cons_self ..) a b hg
      by_cases hq : Q a b = true
      · have e2 : ∀ i, sumN (fun k => if Q i k = true ∧ some (a, b) = some (i, k) then 1 else 0) M = if a = i then 1 else 0 := fun i => by
          by_cases h1 : a = i
          · subst h1
            rw [if_pos rfl, sumN_congr (d := fun k => if b = k then 1 else 0) (fun k _ => by
              by_cases h2 : b = k
              · subst h2; simp [hq]
              · rw [if_neg h2, if_neg (by simp; exact fun _ => h2)])]
            rw [sumN_one, if_pos hb]
          · rw [if_neg h1, sumN_congr (d := fun _ => 0) (fun k _ => if_neg (by simp; exact fun _ hh => absurd hh h1)), sumN_zero]
        rw [sumN_congr (fun i _ => e2 i), sumN_one, if_pos ha]
        simp [hq]
      · rw [sumN_congr (d := fun _ => 0) (fun i _ => by rw [sumN_congr (d := fun _ => 0) (fun k _ => if_neg (by rintro ⟨h1, h2⟩; simp at h2; obtain ⟨rfl, rfl⟩ := h2; exact hq h1)), sumN_zero]), sumN_zero]
        simp [hq]
/-- The values of two series. -/
def twoG (N D : Nat) (l : List UInt8) : Option (Nat × Nat) := match s1 N D l 0 0 with
  | none => none
  | some (x, p) => match s1 N D (l.drop p) 0 0 with | none => none | some (y, _) => some (x, y)
theorem twoG_twoP (N D i k : Nat) (l : List UInt8) : decide (twoG N D l = some (i, k)) = twoP N D i k l := by
  rw [Bool.eq_iff_iff, decide_eq_true_iff]
  unfold twoG twoP oneP
  cases s1 N D l 0 0 with
  | none => simp
  | some xp =>
    obtain ⟨x, p⟩ := xp
    dsimp only
    cases s1 N D (l.drop p) 0 0 with
    | none => simp
    | some yq => simp
theorem gV_two {N D : Nat} (h : N < D) (n : Nat) (v : Int) : gV N D true n v = sumN (fun i => sumN (fun k => if (i : Int) - (k : Int) = v then cw n (twoP N D i k) else 0) (n + 1)) (n + 1) := by
  have h1 := countP_pairs (twoG N D) (fun i k => decide ((i : Int) - (k : Int) = v)) (n + 1) (allW n) (fun l hl i k hg => by
    have hn := allW_len hl
    unfold twoG at hg
    cases hs : s1 N D l 0 0 with
    | none => rw [hs] at hg; cases hg
    | some xp =>
      obtain ⟨x, p⟩ := xp
      obtain ⟨b1, b2⟩ := s1_bd h hs
      rw [hs] at hg
      dsimp only at hg
      cases hs2 : s1 N D (l.drop p) 0 0 with
      | none => rw [hs2] at hg; cases hg
      | some yq =>
        obtain ⟨y, q⟩ := yq
        obtain ⟨b3, b4⟩ := s1_bd h hs2
        rw [hs2] at hg
        rw [List.length_drop] at b4
        simp at hg
        omega)
  unfold gV
  rw [← cw_all]
  refine Eq.trans ?_ (h1.trans ?_)
  · refine List.countP_congr fun l hl => ?_
    unfold valT twoG
    cases s1 N D l 0 0 with
    | none => simp
    | some xp =>
      obtain ⟨x, p⟩ := xp
      simp only [if_true]
      cases s1 N D (l.drop p) 0 0 with
      | none => simp
      | some yq => simp
  · refine sumN_congr fun i _ => sumN_congr fun k _ => ?_
    simp only [decide_eq_true_eq]
    split
    · rw [cw_all]
      exact cw_congr fun l _ => twoG_twoP N D i k l
    · rfl
/-- What is not late has a value. -/
theorem gV_sum {N D : Nat} (h : N < D) (two : Bool) (n : Nat) : sumN (fun j => gV N D two n ((j : Int) - (n : Int))) (2 * n + 1) + gL N D two n = 2 ^ n := by
  have h1 := count_all (fun l => ((valT N D two l).isSome, ((valT N D two l).getD 0 + (n : Int)).toNat)) (2 * n + 1) (allW n) (fun l hl hd => by
    have hn := allW_len hl
    dsimp only at hd ⊢
    obtain ⟨v, hv⟩ := Option.isSome_iff_exists.1 hd
    have := valT_bd h hv
    rw [hv, Option.getD_some]
    omega)
  rw [allW_length] at h1
  rw [← h1]
  congr 1
  · refine sumN_congr fun j hj => ?_
    unfold gV
    rw [← cw_all]
    refine List.countP_congr fun l hl => ?_
    have hn := allW_len hl
    cases hv : valT N D two l with
    | none => simp
    | some v =>
      have := valT_bd h hv
      simp
      omega
  · unfold gL
    rw [← cw_all]
    refine List.countP_congr fun l hl => ?_
    cases valT N D two l <;> simp
theorem gV_le {N D : Nat} (h : N < D) (two : Bool) (n : Nat) (v : Int) : gV N D two n v ≤ 2 ^ n := by
  by_cases hv : v < -(n : Int) ∨ (n : Int) < v
  · rw [gV_out h hv]; exact Nat.zero_le _
  · have h1 := gV_sum h two n
    have h2 := sumN_at (f := fun j => gV N D two n ((j : Int) - (n : Int))) (i := (v + n).toNat) (n := 2 * n + 1) (by omega)
    rw [show ((v + (n : Int)).toNat : Int) - (n : Int) = v by omega] at h2
    omega
end Go.Proofs.YtccalhlhdiapiaaGreatDoor
namespace Go.Proofs.YtccalhlhdiapiaaGreatDoor
open Go.RowKit
open Go.Lib (decDigits nDigits)
/-- A row of texts of numbers. -/
def numL (l : List Nat) : List Value := l.map fun n => .string (numB n)
@[simp] theorem numL_length (l : List Nat) : (numL l).length = l.length := by simp [numL]
theorem numL_get {l : List Nat} {i : Nat} (h : i < l.length) : (numL l)[i]? = some (.string (numB (l.getD i 0))) := by
  simp [numL, List.getD_eq_getElem?_getD, List.getElem?_eq_getElem h]
theorem numL_set (l : List Nat) (i x : Nat) : (numL l).set i (.string (numB x)) = numL (l.set i x) := by simp [numL, List.map_set]
/-- x is added at the place k, if c. -/
def addAt (c : Bool) (k x : Nat) (l : List Nat) : List Nat := if c = true then l.set k (l.getD k 0 + x) else l
theorem addAt_length (c : Bool) (k x : Nat) (l : List Nat) : (addAt c k x l).length = l.length := by unfold addAt; split <;> simp
theorem addAt_false (k x : Nat) (l : List Nat) : addAt false k x l = l := rfl
theorem addAt_true (k x : Nat) (l : List Nat) : addAt true k x l = l.set k (l.getD k 0 + x) := rfl
theorem addAt_get (c : Bool) {k x : Nat} {l : List Nat} (hk : k < l.length) (i : Nat) : (addAt c k x l).getD i 0 = l.getD i 0 + (if c = true ∧ i = k then x else 0) := by
  cases c
  · rw [addAt_false]; simp
  · rw [addAt_true, List.getD_eq_getElem?_getD, List.getD_eq_getElem?_getD, List.getElem?_set]
    by_cases h : k = i
    · subst h; simp [hk, List.getD_eq_getElem?_getD]
    · simp [h, show ¬ i = k from fun e => h e.symm]
/-- One step: the source i, j bits further. -/
def tStep (os zs : Nat → Bool) (i j : Nat) (s : List Nat × List Nat) : List Nat × List Nat := (addAt (os j) (i + j) (s.1.getD i 0) s.1, addAt (zs j) (i + j) (s.1.getD i 0) s.2)
def tIn (os zs : Nat → Bool) (i : Nat) : Nat → List Nat × List Nat → List Nat × List Nat
  | 0, s => s
  | j + 1, s => tStep os zs i j (tIn os zs i j s)
def tOut (os zs : Nat → Bool) (n : Nat) : Nat → List Nat × List Nat
  | 0 => (1 :: List.replicate n 0, List.replicate (n + 1) 0)
  | i + 1 => if (tOut os zs n i).1.getD i 0 = 0 then tOut os zs n i else tIn os zs i (n + 1 - i) (tOut os zs n i)
/-- The bounds on the way. -/
structure TB (n i j : Nat) (s : List Nat × List Nat) : Prop where
  l1 : s.1.length = n + 1
  l2 : s.2.length = n + 1
  up1 : ∀ k, s.1.getD k 0 ≤ 2 ^ (i + 1)
  up2 : ∀ k, s.2.getD k 0 ≤ 2 ^ (i + 1)
  hi1 : ∀ k, i + j ≤ k → s.1.getD k 0 ≤ 2 ^ i
  hi2 : ∀ k, i + j ≤ k → s.2.getD k 0 ≤ 2 ^ i
  src : s.1.getD i 0 ≤ 2 ^ i
theorem TB.step {os zs : Nat → Bool} (h0 : os 0 = false) {n i j : Nat} {s : List Nat × List Nat} (h : TB n i j s) (hij : i + j ≤ n) : TB n i (j + 1) (tStep os zs i j s) ∧ (tStep os zs i j s).1.getD i 0 = s.1.getD i 0 := by
  have e1 := addAt_get (os j) (x := s.1.getD i 0) (show i + j < s.1.length by rw [h.l1]; omega)
  have e2 := addAt_get (zs j) (x := s.1.getD i 0) (show i + j < s.2.length by rw [h.l2]; omega)
  have p : 2 ^ (i + 1) = 2 ^ i + 2 ^ i := by rw [Nat.pow_succ]; omega
  have hs := h.src
  have h3 : (tStep os zs i j s).1.getD i 0 = s.1.getD i 0 := by
    show (addAt _ _ _ _).getD _ _ = _
    rw [e1]
    rw [if_neg]
    · omega
    · rintro ⟨h1, h2⟩
      rw [show j = 0 by omega, h0] at h1
      cases h1
  refine ⟨⟨by show (addAt _ _ _ _).length = _; rw [addAt_length, h.l1], by show (addAt _ _ _ _).length = _; rw [addAt_length, h.l2], fun k => ?_, fun k => ?_, fun k hk => ?_, fun k hk => ?_, by rw [h3]; exact hs⟩, h3⟩
  · show (addAt _ _ _ _).getD _ _ ≤ _
    rw [e1]
    have := h.up1 k
    split
    · rename_i hc
      have := h.hi1 k (by omega)
      omega
    · omega
  · show (addAt _ _ _ _).getD _ _ ≤ _
    rw [e2]
    have := h.up2 k
    split
    · rename_i hc
      have := h.hi2 k (by omega)
      omega
    · omega
  · show (addAt _ _ _ _).getD _ _ ≤ _
    rw [e1, if_neg (by omega)]
    exact h.hi1 k (by omega)
  · show (addAt _ _ _ _).getD _ _ ≤ _
    rw [e2, if_neg (by omega)]
    exact h.hi2 k (by omega)
theorem TB.inner {os zs : Nat → Bool} (h0 : os 0 = false) {n i : Nat} {s : List Nat × List Nat} (h : TB n i 0 s) : ∀ j, i + j ≤ n + 1 → TB n i j (tIn os zs i j s) ∧ (tIn os zs i j s).1.getD i 0 = s.1.getD i 0
  | 0, _ => ⟨h, rfl⟩
  | j + 1, hj => by
    obtain ⟨h1, h2⟩ := TB.inner h0 h j (by omega)
    obtain ⟨h3, h4⟩ := TB.step h0 (os := os) (zs := zs) h1 (by omega)
    exact ⟨h3, h4.trans h2⟩
theorem TB.next {n i j : Nat} {s : List Nat × List Nat} (h : TB n i j s) : TB n (i + 1) 0 s := by
  have p : 2 ^ (i + 1) ≤ 2 ^ (i + 1 + 1) := Nat.pow_le_pow_right (by omega) (by omega)
  exact ⟨h.l1, h.l2, fun k => Nat.le_trans (h.up1 k) p, fun k => Nat.le_trans (h.up2 k) p, fun k _ => h.up1 k, fun k _ => h.up2 k, h.up1 _⟩
theorem TB.outer {os zs : Nat → Bool} (h0 : os 0 = false) (n : Nat) : ∀ i, i ≤ n + 1 → TB n i 0 (tOut os zs n i)
  | 0, _ => by
    have e1 : ∀ k, (1 :: List.replicate n 0).getD k 0 ≤ 1 := fun k => by
      cases k with
      | zero => simp
      | succ k =>
        rw [List.getD_cons_succ, List.getD_eq_getElem?_getD, List.getElem?_replicate]
        split <;> simp
    have e2 : ∀ k, (List.replicate (n + 1) 0).getD k 0 ≤ 1 := fun k => by
      rw [List.getD_eq_getElem?_getD, List.getElem?_replicate]
      split <;> simp
    refine ⟨by simp [tOut], by simp [tOut], fun k => Nat.le_trans (e1 k) (by simp), fun k => Nat.le_trans (e2 k) (by simp), fun k _ => e1 k, fun k _ => e2 k, e1 _⟩
  | i + 1, hi => by
    have ih := TB.outer h0 (zs := zs) n i (by omega)
    rw [tOut]
    split
    · exact ih.next
    · exact (TB.inner h0 ih (n + 1 - i) (by omega)).1.next
theorem two_pow_digits {x i : Nat} (h : x ≤ 2 ^ i) (hi : i ≤ 3000) : nDigits x ≤ 4000 := by
  refine Nat.le_trans (nDigits_mono h) ?_
  have h1 : 2 ^ i < 10 ^ (i + 1) := by
    have h2 : 2 ^ i ≤ 10 ^ i := Nat.pow_le_pow_left (by omega) i
    have h3 : 10 ^ i < 10 ^ (i + 1) := Nat.pow_lt_pow_right (by omega) (by omega)
    omega
  exact Nat.le_trans (nDigits_le (Nat.succ_pos i) h1) (by omega)
end Go.Proofs.YtccalhlhdiapiaaGreatDoor
namespace Go.Proofs.YtccalhlhdiapiaaGreatDoor
open Go.RowKit
set_option linter.unusedVariables false
set_option linter.unusedSimpArgs false
/-- x is added at the places i, i + 1 .. i + j - 1 whose distance a test names. -/
def aIn (c : Nat → Bool) (x i : Nat) : Nat → List Nat → List Nat
  | 0, l => l
  | j + 1, l => addAt (c j) (i + j) x (aIn c x i j l)
/-- A whole pass. -/
def aOut (c : Nat → Bool) (O : List Nat) (n : Nat) : Nat → List Nat
  | 0 => List.replicate (n + 1) 0
  | i + 1 => aIn c (O.getD i 0) i (n + 1 - i) (aOut c O n i)
theorem aIn_length (c : Nat → Bool) (x i : Nat) : ∀ (j : Nat) (l : List Nat), (aIn c x i j l).length = l.length
  | 0, l => rfl
  | j + 1, l => by rw [aIn, addAt_length, aIn_length c x i j l]
theorem aOut_length (c : Nat → Bool) (O : List Nat) (n : Nat) : ∀ i, (aOut c O n i).length = n + 1
  | 0 => by simp [aOut]
  | i + 1 => by rw [aOut, aIn_length, aOut_length c O n i]
theorem addAt_zero (b : Bool) (k : Nat) (l : List Nat) : addAt b k 0 l = l := by
  unfold addAt
  split
  · rw [Nat.add_zero]
    apply List.ext_getElem?
    intro m
    rw [List.getElem?_set]
    split
    · rename_i h
      subst h
      split
      · rename_i hk
        rw [List.getD_eq_getElem?_getD, List.getElem?_eq_getElem hk]; rfl
      · rename_i hk
        rw [List.getElem?_eq_none (by omega)]
    · rfl
  · rfl
theorem aIn_zero (c : Nat → Bool) (i : Nat) : ∀ (j : Nat) (l : List Nat), aIn c 0 i j l = l
  | 0, l => rfl
  | j + 1, l => by rw [aIn, addAt_zero, aIn_zero c i j l]
theorem aIn_get {c : Nat → Bool} {x i n : Nat} {l : List Nat} (hl : l.length = n + 1) : ∀ {j : Nat}, i + j ≤ n + 1 → ∀ k, (aIn c x i j l).getD k 0 = l.getD k 0 + (if i ≤ k ∧ k < i + j ∧ c (k - i) = true then x else 0)
  | 0, _, k => by rw [aIn, if_neg (by omega)]; rfl
  | j + 1, h, k => by
    rw [aIn, addAt_get _ (by rw [aIn_length]; omega), aIn_get hl (by omega) k, Nat.add_assoc]
    congr 1
    by_cases hk : k = i + j
    · subst hk
      rw [if_neg (by omega), show i + j - i = j by omega, Nat.zero_add]
      by_cases hc : c j = true
      · rw [if_pos ⟨hc, rfl⟩, if_pos ⟨by omega, by omega, hc⟩]
      · rw [if_neg (fun h => hc h.1), if_neg (fun h => hc h.2.2)]
    · have e0 : (if c j = true ∧ k = i + j then x else 0) = 0 := if_neg (fun h => hk h.2)
      rw [e0, Nat.add_zero]
      by_cases hc : i ≤ k ∧ k < i + j ∧ c (k - i) = true
      · rw [if_pos hc, if_pos ⟨hc.1, by omega, hc.2.2⟩]
      · rw [if_neg hc, if_neg (fun h => hc ⟨h.1, by omega, h.2.2⟩)]
theorem aOut_get {c : Nat → Bool} {O : List Nat} {n : Nat} : ∀ {i : Nat}, i ≤ n + 1 → ∀ k, k ≤ n → (aOut c O n i).getD k 0 = sumN (fun i' => if i' ≤ k ∧ c (k - i') = true then O.getD i' 0 else 0) i
  | 0, _, k, hk => by simp [aOut, sumN, List.getD_eq_getElem?_getD, List.getElem?_replicate, show k < n + 1 by omega]
  | i + 1, h, k, hk => by
    rw [aOut, aIn_get (aOut_length c O n i) (by omega), aOut_get (by omega) k hk, sumN]
    congr 1
    by_cases hc : i ≤ k ∧ c (k - i) = true
    · rw [if_pos hc, if_pos ⟨hc.1, by omega, hc.2⟩]
    · rw [if_neg hc, if_neg (fun h => hc ⟨h.1, h.2.2⟩)]
/-- A row of numbers by their function. -/
def fnL (f : Nat → Nat) (n : Nat) : List Nat := (List.range (n + 1)).map f
theorem fnL_length (f : Nat → Nat) (n : Nat) : (fnL f n).length = n + 1 := by simp [fnL]
theorem fnL_get {f : Nat → Nat} {n k : Nat} (h : k ≤ n) : (fnL f n).getD k 0 = f k := by simp [fnL, List.getD_eq_getElem?_getD, show k < n + 1 by omega]
theorem fnL_ext {l : List Nat} {f : Nat → Nat} {n : Nat} (hl : l.length = n + 1) (h : ∀ k, k ≤ n → l.getD k 0 = f k) : l = fnL f n := by
  apply List.ext_getElem?
  intro k
  by_cases hk : k ≤ n
  · have h1 := h k hk
    rw [List.getD_eq_getElem?_getD, List.getElem?_eq_getElem (by omega)] at h1
    rw [List.getElem?_eq_getElem (by omega)]
    simp only [Option.getD_some] at h1
    rw [h1]
    simp [fnL, show k < n + 1 by omega]
  · rw [List.getElem?_eq_none (by omega), List.getElem?_eq_none (by rw [fnL_length]; omega)]
theorem aOut_fn {c : Nat → Bool} {f : Nat → Nat} {n : Nat} : aOut c (fnL f n) n (n + 1) = fnL (cvo (chi c) f) n := by
  refine fnL_ext (aOut_length _ _ _ _) fun k hk => ?_
  rw [aOut_get (Nat.le_refl _) k hk, cvo_comm]
  unfold cvo
  have e : ∀ m, sumN (fun i' => if i' ≤ k ∧ c (k - i') = true then (fnL f n).getD i' 0 else 0) (k + 1 + m) = sumN (fun i' => if i' ≤ k ∧ c (k - i') = true then (fnL f n).getD i' 0 else 0) (k + 1) := fun m => by
    induction m with
    | zero => rfl
    | succ m ih => rw [← Nat.add_assoc, sumN, ih, if_neg (by omega)]; rfl
  rw [show n + 1 = k + 1 + (n - k) by omega, e]
  refine sumN_congr fun i hi => ?_
  rw [fnL_get (by omega)]
  unfold chi
  by_cases hc : c (k - i) = true
  · rw [if_pos ⟨by omega, hc⟩, if_pos hc, Nat.mul_one]
  · rw [if_neg (fun h => hc h.2), if_neg hc, Nat.mul_zero]
/-- The rows of numbers of ends, what they begin with. -/
def opnL (N D n i : Nat) : List Nat := fnL (opn N D i) n
def ednL (N D n i : Nat) : List Nat := fnL (edn N D i) n
theorem opnL_zero (N D n : Nat) : (List.replicate (n + 1) 0).set 0 1 = opnL N D n 0 := by
  refine fnL_ext (by simp) fun k hk => ?_
  rw [List.getD_eq_getElem?_getD, List.getElem?_set]
  unfold opn dlt
  by_cases h : k = 0
  · subst h; simp
  · rw [if_neg (fun e => h e.symm), if_neg h]
    simp [List.getElem?_replicate, show k < n + 1 by omega]
theorem opnL_succ (N D n i : Nat) : aOut (oneJ N D) (opnL N D n i) n (n + 1) = opnL N D n (i + 1) := aOut_fn
theorem ednL_is (N D n i : Nat) : aOut (zeroJ N D) (opnL N D n i) n (n + 1) = ednL N D n i := aOut_fn
/-- Bounds. -/
theorem cvo_bd {c : Nat → Bool} {f : Nat → Nat} {B n : Nat} (h : ∀ s, s ≤ n → f s ≤ B) : ∀ k, k ≤ n → cvo (chi c) f k ≤ (n + 1) * B := fun k hk => by
  unfold cvo
  have h1 : sumN (fun s => chi c s * f (k - s)) (k + 1) ≤ sumN (fun _ => B) (k + 1) := sumN_le fun s hs => by
    have := chi_le c s
    have := h (k - s) (by omega)
    calc chi c s * f (k - s) ≤ 1 * f (k - s) := Nat.mul_le_mul_right _ (by assumption)
      _ ≤ B := by omega
  have h2 : ∀ m, sumN (fun _ => B) m = m * B := fun m => by
    induction m with
    | zero => simp [sumN]
    | succ m ih => rw [sumN, ih, Nat.succ_mul]
  rw [h2] at h1
  exact Nat.le_trans h1 (Nat.mul_le_mul_right _ (by omega))
theorem opn_bd {N D n : Nat} (hn : n ≤ 32) : ∀ i s, s ≤ n → opn N D i s ≤ 2 ^ (6 * i)
  | 0, s, hs => by unfold opn dlt; split <;> simp
  | i + 1, s, hs => by
    have h := cvo_bd (c := oneJ N D) (f := opn N D i) (B := 2 ^ (6 * i)) (n := n) (fun s hs => opn_bd hn i s hs) s hs
    rw [opn]
    refine Nat.le_trans h ?_
    rw [show 6 * (i + 1) = 6 + 6 * i by omega, Nat.pow_add]
    exact Nat.mul_le_mul_right _ (by omega)
theorem edn_bd {N D n : Nat} (hn : n ≤ 32) (i s : Nat) (hs : s ≤ n) : edn N D i s ≤ 2 ^ (6 * (i + 1)) := by
  have h := cvo_bd (c := zeroJ N D) (f := opn N D i) (B := 2 ^ (6 * i)) (n := n) (fun s hs => opn_bd hn i s hs) s hs
  unfold edn
  refine Nat.le_trans h ?_
  rw [show 6 * (i + 1) = 6 + 6 * i by omega, Nat.pow_add]
  exact Nat.mul_le_mul_right _ (by omega)
/-- What stands in a pass that is under way is at most what will stand there. -/
theorem aIn_le {c : Nat → Bool} {O : List Nat} {n i j k : Nat} (hi : i ≤ n) (hij : i + j ≤ n + 1) (hk : k ≤ n) : (aIn c (O.getD i 0) i j (aOut c O n i)).getD k 0 ≤ (aOut c O n (n + 1)).getD k 0 := by
  rw [aIn_get (aOut_length _ _ _ _) hij, aOut_get (by omega) k hk, aOut_get (Nat.le_refl _) k hk]
  refine Nat.le_trans ?_ (sumN_mono (show i + 1 ≤ n + 1 by omega))
  rw [sumN]
  refine Nat.add_le_add_left ?_ _
  by_cases hc : i ≤ k ∧ c (k - i) = true
  · rw [if_pos hc]; split <;> omega
  · rw [if_neg hc, if_neg (fun h => hc ⟨h.1, h.2.2⟩)]; exact Nat.le_refl _
end Go.Proofs.YtccalhlhdiapiaaGreatDoor
