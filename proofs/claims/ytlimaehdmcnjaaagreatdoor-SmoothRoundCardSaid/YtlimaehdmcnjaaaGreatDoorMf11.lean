/- Texts that the proof rests on, merged: So16, So10, KsI, Slw, Sto, Pc0, Cv1, Tot, Cv2, G5, Coin2, Coins, Ser, Cv3, Cv6, Cv7, Sy3, R2x, R2z, R2da, Iz, Iw, PkP, Srn. -/
import Derived.Test.YtlimaehdmcnjaaaGreatDoorMf10
import Derived.Sort.KeysCollected
import Derived.Test.YtlimaehdmcnjaaaGreatDoorProg
import Derived.Maps.StringElems
import Derived.Lib.ItoaMem
set_option linter.unusedVariables false
set_option linter.unusedSimpArgs false
set_option linter.unusedSectionVars false
set_option maxRecDepth 100000
set_option maxHeartbeats 8000000
namespace Go.Proofs.YtlimaehdmcnjaaaGreatDoor
open Go.RowKit
open Go.Shelf
open Go.Lib (decDigits nDigits)
theorem rd_bad1 (w : World) (v : Value) (l : List ByteArray) (hv : Row w v (strs l)) (hs : ∀ s ∈ l, s.size ≤ 1000000) (hL : Lay w) (hve : vecE l ≠ 0) :
 Calls Tryz.prog 23 #[v] w fun e w' => (∃ u, e = .returned (.tuple #[u, .int .i64 (rdE l)]) ∧ Row w' u (zs (rdR' l))) ∧ Below w.heap.size w w' := by
 have HB := hid (s_read w v l hv hs hL)
 obtain ⟨e1, e2⟩ := rdE_bad hve
 rw [e1, e2]
 have t2 : (vecE l == 0) = false := by simpa using hve
 have t3 : (vecE l != 0) = true := by simpa using hve
 have HV := hid hve
 obtain ⟨a, c, rfl, -, -, -⟩ := hv.openS
 obtain ⟨N, hN⟩ : ∃ n, l.length = n := ⟨_, rfl⟩
 rw [hN] at HB ⊢
 obtain ⟨E, hE⟩ : ∃ x, vecE l = x := ⟨_, rfl⟩
 rw [hE] at HB t2 t3 HV ⊢
 clear hv hs hL hN hve hE e1 e2
 go_enter Tryz.func23, Tryz.ntmps23
 go_wp2_with fail
 refine HB.out.mono ?_; rintro e w1 ⟨⟨u, rfl, -, hu⟩, hb1⟩
 obtain rfl := hu HV.out
 have y1 := hid hb1
 clear hb1 hu
 go_wp2_with fail
 go_ret2
 exact ⟨⟨.slice none 0 0, rfl, Row.nil _⟩, y1.out⟩
theorem rd_bad2 (w : World) (v : Value) (l : List ByteArray) (hv : Row w v (strs l)) (hs : ∀ s ∈ l, s.size ≤ 1000000) (hL : Lay w) (hve : vecE l = 0) (hbad : (rs (l.map vQ)).den ≠ 1 ∨ (l.map vQ).any (farB bigR) = true) :
 Calls Tryz.prog 23 #[v] w fun e w' => (∃ u, e = .returned (.tuple #[u, .int .i64 (if (rs (l.map vQ)).den = 1 then 2 else 15)]) ∧ Row w' u (zs [])) ∧ Below w.heap.size w w' := by
 have HB := hid (s_read w v l hv hs hL)
 rw [hve] at HB
 obtain ⟨g1, g2, hq0⟩ := vecE_ok hve
 obtain ⟨N, hN⟩ : ∃ n, l.length = n := ⟨_, rfl⟩
 have hdq := dig_vqs hve
 have hlen : (l.map vQ).length = N := by rw [List.length_map, hN]
 obtain ⟨qs, hqs⟩ : ∃ qs, l.map vQ = qs := ⟨_, rfl⟩
 rw [hqs] at HB hbad hdq hlen ⊢
 have HSm := fun V v h => hid (s_sum V w.heap.size v qs h (by omega) hdq)
 have HON := fun V v h => hid (l_One V v (rs qs).den h)
 have HSl := fun V => hid (s_small V 1000000000000 (by omega))
 have lB : Lim bigR := Lim.of (K := 20) ⟨by unfold bigR; rw [Rat.num_natCast]; decide, by unfold bigR; rw [Rat.den_natCast]; decide⟩ (by omega)
 have HCF := fun V v g hv hg => hid (s_ContF V w.heap.size v qs bigR g hv (by omega) (fun q hq => Lim.of (hdq q hq) (by omega)) hg lB)
 have HN := hid hlen
 have HBAD := hid hbad
 obtain ⟨a, c, rfl, -, -, -⟩ := hv.openS
 rw [hN] at HB ⊢
 clear hv hs hL hN g1 g2 hdq hlen lB hve hq0 hqs hbad
 go_enter Tryz.func23, Tryz.ntmps23
 go_wp2_with fail
 refine HB.out.mono ?_; rintro e w1 ⟨⟨u, rfl, hu, -⟩, hb1⟩
 have hu1 := hu trivial
 have y1 := hid hb1
 have RV := hid hu1
 obtain ⟨av, cv, rfl, -, -⟩ := hu1.slice
 rw [HN.out] at RV ⊢
 clear hb1 hu hu1
 go_wp2_with fail
 refine (HSm _ _ RV.out).out.mono ?_; rintro e w2 ⟨⟨u2, rfl, hu2⟩, hb2⟩
 obtain ⟨m2, a2, n2, c2, b2, d2, e2, rfl⟩ := hu2.qv
 have Q2 := hid (hu2.call ((Below.refl w2.heap.size w2).alloc (Nat.le_refl _) (.cells #[.bool m2, .slice a2 n2 c2, .slice b2 d2 e2] 57)))
 have X2 := Blk.new w2 #[.bool m2, .slice a2 n2 c2, .slice b2 d2 e2] 57
 have z2 := hid (bnext hb2 ((Below.refl w2.heap.size w2).alloc (Nat.le_refl _) (.cells #[.bool m2, .slice a2 n2 c2, .slice b2 d2 e2] 57)))
 obtain ⟨g6, hg6⟩ : ∃ g, w2.heap.size = g := ⟨_, rfl⟩
 obtain ⟨W2, hW2⟩ : ∃ x, w2.alloc (.cells #[.bool m2, .slice a2 n2 c2, .slice b2 d2 e2] 57) = x := ⟨_, rfl⟩
 rw [hW2] at Q2 z2 X2
 rw [hg6] at X2
 have r2 := X2.cell 2
 simp at r2
 clear hb2 hu2 X2
 go_wp2_with fail
 clear hW2 hg6 r2
 refine (HON _ _ (isQ_partsU Q2.out).2).out.mono ?_; rintro e w3 ⟨rfl, rfl⟩
 by_cases hden : (rs qs).den = 1
 ·have hone : isO (rs qs).den = true := by rw [isO_den, hden]; rfl
  have HDN := hid hden
  have hany : qs.any (farB bigR) = true := HBAD.out.resolve_left fun h => h hden
  rw [hany] at HCF
  rw [hone]
  clear hone hany hden
  go_wp2_with fail
  refine (HSl _).out.mono ?_; rintro e w3 ⟨⟨u3, rfl, hu3⟩, hb3⟩
  obtain ⟨m3, a3, n3, c3, b3, d3, e3, rfl⟩ := hu3.qv
  have A3 := (Below.refl w3.heap.size w3).alloc (Nat.le_refl _) (.cells #[.bool m3, .slice a3 n3 c3, .slice b3 d3 e3] 57)
  have z3 := hid (bnext z2.out (bnext hb3 A3))
  have FH := hid (FB.new hu3)
  obtain ⟨g7, hg7⟩ : ∃ g, w3.heap.size = g := ⟨_, rfl⟩
  obtain ⟨W3, hW3⟩ : ∃ x, w3.alloc (.cells #[.bool m3, .slice a3 n3 c3, .slice b3 d3 e3] 57) = x := ⟨_, rfl⟩
  rw [hW3] at z3 FH
  rw [hg7] at FH
  clear hb3 hu3 A3 Q2 z2
  go_wp2_with fail
  clear hW3 hg7
  refine (HCF _ _ _ (RV.out.call z3.out) FH.out).out.mono ?_; rintro e w4 ⟨rfl, hb4⟩
  have z4 := hid (bnext y1.out (bnext z3.out hb4))
  clear hb4
  go_wp2_with fail
  go_ret2
  exact ⟨⟨_, rfl, Row.nil _⟩, z4.out⟩
 ·have hone : isO (rs qs).den = false := by rw [isO_den]; exact decide_eq_false hden
  have HDN := hid hden
  have z4 := hid (bnext y1.out z2.out)
  rw [hone]
  clear hone hden
  go_wp2_with fail
  go_ret2
  exact ⟨⟨_, rfl, Row.nil _⟩, z4.out⟩
theorem s_Round (w : World) (v : Value) (l : List ByteArray) (hv : Row w v (strs l)) (hs : ∀ s ∈ l, s.size ≤ 1000000) (hl : l.length ≤ 12) (hL : Lay w) :
 Calls Tryz.prog 23 #[v] w fun e w' => (∃ u, e = .returned (.tuple #[u, .int .i64 (rdE l)]) ∧ Row w' u (zs (rdR' l))) ∧ Below w.heap.size w w' := by
 by_cases hve : vecE l = 0
 ·by_cases hbad : (rs (l.map vQ)).den ≠ 1 ∨ (l.map vQ).any (farB bigR) = true
  ·have e0 : rdE l = if (rs (l.map vQ)).den = 1 then 2 else 15 := by
    unfold rdE
    rw [if_pos hve]
    by_cases hd : (rs (l.map vQ)).den = 1
    ·rw [if_pos hd, if_pos hd, if_pos]
     have h := hbad.resolve_left fun h => h hd
     rw [← h]
     congr 1
     funext q
     exact farB_is.symm
    ·rw [if_neg hd, if_neg hd]
   have e1 : rdR' l = [] := by
    unfold rdR'
    rw [if_neg]
    rw [e0]
    split <;> decide
   rw [e0, e1]
   exact rd_bad2 w v l hv hs hL hve hbad
  ·have hd : (rs (l.map vQ)).den = 1 := Decidable.byContradiction fun h => hbad (.inl h)
   have hf : ∀ q ∈ l.map vQ, ¬ (bigR < q ∨ q < -bigR) := fun q hq h => hbad (.inr (List.any_eq_true.2 ⟨q, hq, by rw [farB_is]; exact decide_eq_true h⟩))
   have e0 : rdE l = 0 := by
    unfold rdE
    rw [if_pos hve, if_pos hd, if_neg]
    intro h
    obtain ⟨q, hq, h2⟩ := List.any_eq_true.1 h
    exact hf q hq (by simpa using h2)
   have e1 : rdR' l = rdL (l.map vQ) (rdM (l.map vQ)) := by unfold rdR'; rw [if_pos e0]
   rw [e0, e1]
   exact rd_main w v l hv hs hl hL hve hd hf
 ·exact rd_bad1 w v l hv hs hL hve
theorem info_blk : (Tryz.prog.info? 73).map (fun i => (i.zero, i.size, i.bytes)) = some (some (.agg #[.bool false, .slice none 0 0, .slice none 0 0, .int .i64 0]), 4, 64) := by kernel_rfl
theorem noz_blk : NoKL .u64 (Value.cells (.agg #[.bool false, .slice none 0 0, .slice none 0 0, .int .i64 0])).toList := by intro x hx; simp [Value.cells] at hx
theorem nok4 (m : Bool) (a b : Option Addr) (n p n' p' : Nat) (k : Int) : NoKL .u64 [[Value.bool m, .slice a n p, .slice b n' p', .int .i64 k]].flatten := by intro x hx; simp at hx
theorem one4 (m : Bool) (a b : Option Addr) (n p n' p' : Nat) (k : Int) : ∀ u ∈ [[Value.bool m, .slice a n p, .slice b n' p', .int .i64 k]].flatten, u.oneCell' = true := by intro u hu; simp at hu; rcases hu with rfl | rfl | rfl | rfl <;> rfl
theorem len4 (x y z t : Value) : ∀ d ∈ [[x, y, z, t]], d.length = 4 := by intro d hd; simp at hd; subst hd; rfl
theorem news4 {W : World} {g : Nat} {x y z t : Value} {ty : TypeId} (h : Blk W g #[x, y, z, t] ty) : ∀ j u, [[x, y, z, t]].flatten[j]? = some u → W.cell? ((⟨g, 0, none⟩ : Addr).add j) = some u := fun j u hj => by
 rw [Addr.add_lit, Nat.zero_add, h.cell]
 simpa using hj
theorem BRow.app {B : Nat} {W W' : World} {v' : Value} {cs : List (List Value)} {bs : List (Rat × Nat)} {c : List Value} {b : Rat × Nat} (hl : cs.length = bs.length) (h : ∀ (i : Nat) (b : Rat × Nat), bs[i]? = some b → ∃ c, cs[i]? = some c ∧ BC W c b) (hk : KRow .u64 73 4 B W' v' (cs ++ [c])) (hkeep : KeepK .u64 W W') (hc : BC W c b) : BRow B W' v' (bs ++ [b]) := by
 refine ⟨cs ++ [c], hk, by simp [hl], fun i x hx => ?_⟩
 by_cases hi : i < bs.length
 ·rw [List.getElem?_append_left hi] at hx
  rw [List.getElem?_append_left (by omega)]
  obtain ⟨d, h1, h2⟩ := h i x hx
  exact ⟨d, h1, h2.keep hkeep⟩
 ·have hl2 := (List.getElem?_eq_some_iff.1 hx).1
  rw [List.length_append, List.length_singleton] at hl2
  obtain rfl : i = bs.length := by omega
  rw [List.getElem?_append_right (Nat.le_refl _), Nat.sub_self] at hx
  rw [List.getElem?_append_right (by omega), hl, Nat.sub_self]
  obtain rfl : b = x := by simpa using hx
  exact ⟨c, rfl, hc.keep hkeep⟩
theorem QL.append {k : IntKind} {W : World} {cs cr : List (List Value)} {qs rs : List Rat} (h : QL k W cs qs) (h2 : QL k W cr rs) : QL k W (cs ++ cr) (qs ++ rs) := by
 refine ⟨by simp [h.len, h2.len], fun i q hq => ?_⟩
 by_cases hi : i < qs.length
 ·rw [List.getElem?_append_left hi] at hq
  rw [List.getElem?_append_left (by rw [h.len]; exact hi)]
  exact h.at_ i q hq
 ·rw [List.getElem?_append_right (by omega)] at hq
  rw [List.getElem?_append_right (by rw [h.len]; omega), h.len]
  exact h2.at_ _ q hq
def outL (st : List (Rat × Nat)) : List Rat := st.flatMap fun b => List.replicate b.2 (bm b)
theorem outL_take {st : List (Rat × Nat)} {i : Nat} {b : Rat × Nat} (h : st[i]? = some b) : outL (st.take (i + 1)) = outL (st.take i) ++ List.replicate b.2 (bm b) := by
 unfold outL
 rw [List.take_add_one, h, Option.toList_some, List.flatMap_append]
 simp
theorem mn_is {qs : List Rat} {st : List (Rat × Nat)} (h : st.reverse = pv qs) : mnL qs = outL st := by
 unfold mnL pvx outL
 rw [← h, List.reverse_reverse]
theorem pv_snoc {qs : List Rat} {i : Nat} {x : Rat} (h : qs[i]? = some x) : pv (qs.take (i + 1)) = pv1 (x, 1) (pv (qs.take i)) := by
 unfold pv
 rw [List.take_add_one, h, Option.toList_some, List.foldl_append]; rfl
structure StI (st : List (Rat × Nat)) (i : Nat) : Prop where
 all : ∀ b ∈ st, 0 < b.2 ∧ Dig (4001 * b.2 - 1) b.1
 sum : (st.map fun b => b.2).sum = i
theorem StI.nil : StI [] 0 := ⟨fun b hb => (by cases hb), rfl⟩
theorem StI.push {st : List (Rat × Nat)} {i : Nat} {x : Rat} (h : StI st i) (hx : Dig 4000 x) : StI (st ++ [(x, 1)]) (i + 1) := by
 refine ⟨fun b hb => ?_, by rw [List.map_append, List.sum_append, h.sum]; rfl⟩
 rcases List.mem_append.1 hb with hb | hb
 ·exact h.all b hb
 ·obtain rfl : b = (x, 1) := by simpa using hb
  exact ⟨Nat.one_pos, hx.up (by omega)⟩
theorem StI.merge {s : List (Rat × Nat)} {a b : Rat × Nat} {i : Nat} (h : StI (s ++ [a] ++ [b]) i) : StI (s ++ [(a.1 + b.1, a.2 + b.2)]) i := by
 refine ⟨fun c hc => ?_, ?_⟩
 ·rcases List.mem_append.1 hc with hc | hc
  ·exact h.all c (by simp [hc])
  ·obtain rfl : c = (a.1 + b.1, a.2 + b.2) := by simpa using hc
   obtain ⟨h1, h2⟩ := h.all a (by simp)
   obtain ⟨h3, h4⟩ := h.all b (by simp)
   exact ⟨by dsimp only; omega, (dig_add h2 h4).up (by dsimp only; omega)⟩
 ·have := h.sum
  simp only [List.map_append, List.sum_append, List.map_cons, List.map_nil, List.sum_cons, List.sum_nil] at this ⊢
  omega
theorem sum_mem : ∀ {l : List Nat} {x : Nat}, x ∈ l → x ≤ l.sum
 | y :: l, x, h => by
  rw [List.sum_cons]
  rcases List.mem_cons.1 h with rfl | h
  ·omega
  ·have := sum_mem h; omega
theorem StI.le {st : List (Rat × Nat)} {i : Nat} {b : Rat × Nat} (h : StI st i) (hb : b ∈ st) : b.2 ≤ i := by
 rw [← h.sum]
 exact sum_mem (List.mem_map.2 ⟨b, hb, rfl⟩)
theorem StI.len {st : List (Rat × Nat)} {i : Nat} (h : StI st i) : st.length ≤ i := by
 rw [← h.sum]
 have h1 := h.all
 clear h
 induction st with
 | nil => simp
 | cons b st ih =>
  have := ih fun c hc => h1 c (by simp [hc])
  have := (h1 b (by simp)).1
  rw [List.map_cons, List.sum_cons, List.length_cons]; omega
theorem StI.lim {st : List (Rat × Nat)} {i : Nat} {b : Rat × Nat} (h : StI st i) (hi : i ≤ 64) (hb : b ∈ st) : Lim b.1 := Lim.of (h.all b hb).2 (by have := h.le hb; omega)
theorem bm_dig {st : List (Rat × Nat)} {i : Nat} {b : Rat × Nat} (h : StI st i) (hi : i ≤ 64) (hb : b ∈ st) : Dig 300000 (bm b) := by
 obtain ⟨h1, h2⟩ := h.all b hb
 have h3 := h.le hb
 have dK : Dig 2 ((b.2 : Nat) : Rat) := ⟨by rw [Rat.num_natCast]; simp; omega, by rw [Rat.den_natCast]; omega⟩
 unfold bm
 rw [Rat.div_def]
 exact (dig_mul h2 (dig_inv (natR_ne h1) dK)).up (by omega)
theorem outL_len {st : List (Rat × Nat)} {i : Nat} (h : StI st i) : (outL st).length = i := by
 rw [← h.sum]
 unfold outL
 clear h
 induction st with
 | nil => rfl
 | cons b st ih => simp [List.flatMap_cons, ih]
theorem s_Monotone (w : World) (v : Value) (l : List ByteArray) (hv : Row w v (strs l)) (hs : ∀ s ∈ l, s.size ≤ 1000000) (hL : Lay w) :
 Calls Tryz.prog 19 #[v] w fun e w' => (∃ u, e = .returned (.tuple #[u, .int .i64 (mnE l)]) ∧ Row w' u (strs (mnR l))) ∧ Below w.heap.size w w' := by
 obtain ⟨i0, hi, hz0, hz1, hz2⟩ := info_parts info_fr
 obtain ⟨j0, hj0, hy0, hy1, hy2⟩ := info_parts info_blk
 have HR := hid (s_read w v l hv hs hL)
 have HL := hid hL
 obtain ⟨a, c, rfl, -, -, -⟩ := hv.openS
 obtain ⟨N, hN⟩ : ∃ n, l.length = n := ⟨_, rfl⟩
 rw [hN] at HR ⊢
 by_cases h0 : vecE l = 0
 case neg =>
  have e1 : mnE l = vecE l := by unfold mnE; rw [if_neg h0]
  have e2 : mnR l = [] := by unfold mnR; rw [if_neg h0]
  have t2 : (vecE l == 0) = false := by simpa using h0
  have t3 : (vecE l != 0) = true := by simpa using h0
  rw [e1, e2]
  obtain ⟨E, hE⟩ : ∃ x, vecE l = x := ⟨_, rfl⟩
  rw [hE] at HR t2 t3 ⊢
  clear hv hs hL hN h0 hE e1 e2
  go_enter Tryz.func19, Tryz.ntmps19
  go_wp2_with fail
  refine HR.out.mono ?_; rintro e w1 ⟨⟨u, rfl, -, -⟩, hb1⟩
  have y1 := hid hb1
  clear hb1
  go_wp2_with fail
  go_ret2
  exact ⟨⟨.slice none 0 0, rfl, Row.nil _⟩, y1.out⟩
 case pos =>
  have e1 : mnE l = wrE (mnL (l.map vQ)) := by unfold mnE; rw [if_pos h0]
  have e2 : mnR l = wrL (mnL (l.map vQ)) := by unfold mnR; rw [if_pos h0]
  obtain ⟨g1, g2, -⟩ := vecE_ok h0
  have hdq := dig_vqs h0
  have hlen : (l.map vQ).length = N := by rw [List.length_map, hN]
  rw [e1, e2]
  rw [h0] at HR
  obtain ⟨qs, hqs⟩ : ∃ qs, l.map vQ = qs := ⟨_, rfl⟩
  rw [hqs] at HR hdq hlen ⊢
  have HDQ := hid hdq; have HN := hid hlen; have HNN := hid (show 0 < N ∧ N ≤ 64 by omega)
  clear hv hs hL hN h0 e1 e2 g1 g2 hdq hlen hqs
  go_enter Tryz.func19, Tryz.ntmps19
  go_wp2_with fail
  refine HR.out.mono ?_; rintro e w1 ⟨⟨u, rfl, hu, -⟩, hb1⟩
  have hu := hu (by simp)
  obtain ⟨av, cv, rfl, -, -⟩ := hu.slice
  have RV := hid hu
  have y1 := hid hb1
  rw [HN.out] at RV ⊢
  clear hb1 hu
  go_wp2_with fail
  go_loopw [6, 8, 9, 23] (fun s6 s8 s9 s23 wr => ∃ (i : Nat) (st : List (Rat × Nat)), s23 = .int .i64 (i : Nat) ∧ i ≤ N ∧ Hid (st.reverse = pv (qs.take i)) ∧ Hid (StI st i) ∧ Hid (BRow w1.heap.size wr s6 st) ∧ Hid (Below w1.heap.size w1 wr)) (fun s6 s8 s9 s23 wr => N - (intOf s23).toNat)
  case atStart => exact ⟨0, [], rfl, Nat.zero_le _, rfl, StI.nil, BRow.nil _ _, Below.refl _ _⟩
  case round =>
   obtain ⟨i, st, rfl, hi', hP, hS, hO, hB⟩ := hrel
   by_cases hlt : i < N
   ·obtain ⟨x, hx⟩ : ∃ x, qs[i]? = some x := ⟨_, List.getElem?_eq_getElem (by rw [HN.out]; exact hlt)⟩
    obtain ⟨gv, mx, ax, nx, cx, bx, dx, ex, rfl, -, -, k0, k1, k2, hQx⟩ := (RV.out.call hB.out).at hx
    have HPX := hid (pv_snoc hx)
    have HSP := hid (hS.out.push (HDQ.out x (List.mem_of_getElem? hx)))
    have A1 := hid ((Below.refl wr.heap.size wr).alloc (Nat.le_refl _) (.cells #[.bool mx, .slice ax nx cx, .slice bx dx ex] 57))
    have A2 := hid (A1.out.alloc A1.out.size (.cells #[.bool mx, .slice ax nx cx, .slice bx dx ex, .int .i64 1] 73))
    have Z2 := hid (show Blk ((wr.alloc (.cells #[.bool mx, .slice ax nx cx, .slice bx dx ex] 57)).alloc (.cells #[.bool mx, .slice ax nx cx, .slice bx dx ex, .int .i64 1] 73)) (wr.heap.size + 1) #[.bool mx, .slice ax nx cx, .slice bx dx ex, .int .i64 1] 73 from Blk.made _ _ _ (by simp))
    have y2 := hid (show Below w1.heap.size w1 _ from hB.out.trans (A2.out.mono hB.out.size))
    obtain ⟨cs, hk, hcl, hcb⟩ := (hO.out.call A2.out).ex
    have HK := hid hk; have HCB := hid hcb; have HCL := hid hcl
    have HSL := hid (show st.length ≤ 64 by have := hS.out.len; have := HNN.out; omega)
    have BC2 := hid (show BC _ [.bool mx, .slice ax nx cx, .slice bx dx ex, .int .i64 1] (x, 1) from ⟨mx, ax, nx, cx, bx, dx, ex, rfl, hQx.call A2.out⟩)
    have BSZ := hid (show w1.heap.size ≤ ((wr.alloc (.cells #[.bool mx, .slice ax nx cx, .slice bx dx ex] 57)).alloc (.cells #[.bool mx, .slice ax nx cx, .slice bx dx ex, .int .i64 1] 73)).heap.size from y2.out.size)
    have f1 : (0 : Int) ≤ (i : Int) := by omega
    have f2 : (i : Int) < (N : Int) := by omega
    have wi : IntKind.i64.wrap ((i : Int) + 1) = ((i + 1 : Nat) : Int) := by have := HNN.out; rw [IntWalk.i64_in _ ⟨by omega, by omega⟩]; omega
    have HLT := hid hlt
    have LST := hid (show (st ++ [(x, 1)]).length = st.length + 1 by simp)
    obtain ⟨as6, c6, e6, -, -⟩ := hO.out.slice
    subst e6
    clear hx hQx hk hcl hcb hlt hi'
    go_wp2_with (at_builtin; refine wpList_append_krow _ .u64 rfl _ _ 71 rfl w1.heap.size 73 j0 (.agg #[.bool false, .slice none 0 0, .slice none 0 0, .int .i64 0]) 4 64 Tryz.underlying71 hj0 hy0 hy1 hy2 rfl (by decide) noz_blk _ cs rfl HK.out ⟨wr.heap.size + 1, 0, none⟩ 1 1 [[.bool mx, .slice ax nx cx, .slice bx dx ex, .int .i64 1]] rfl rfl (len4 _ _ _ _) (news4 Z2.out) (one4 _ _ _ _ _ _ _ _) (nok4 _ _ _ _ _ _ _ _) (by rw [HCL.out]; have := HSL.out; unfold maxLen; omega) (by rw [HCL.out]; have := HSL.out; omega) BSZ.out ?_
                 intro v' w3 hown hgrow hkeep hat
                 have O3 := hid (BRow.app HCL.out HCB.out hown hkeep BC2.out)
                 have B3 := hid (krow_below HK.out y2.out hgrow)
                 obtain ⟨g3, c3, rfl, -⟩ := O3.out.nz LST.out (by omega)
                 clear hown hgrow hkeep hat)
    go_loopw [6, 9] (fun s6 s9 wx => ∃ (s : List (Rat × Nat)) (b : Rat × Nat) (J g c : Nat), Hid (s.length + 1 = J) ∧ s6 = .slice (some ⟨g, 0, none⟩) J c ∧ s9 = .int .i64 (J : Nat) ∧ Hid (pv1 b s.reverse = pv (qs.take (i + 1))) ∧ Hid (StI (s ++ [b]) (i + 1)) ∧ Hid (BRow w1.heap.size wx (.slice (some ⟨g, 0, none⟩) J c) (s ++ [b])) ∧ Hid (Below w1.heap.size w1 wx)) (fun s6 s9 wx => (intOf s9).toNat)
    case atStart => exact ⟨st, (x, 1), st.length + 1, g3, c3, rfl, rfl, by rw [Int.natCast_add]; rfl, by rw [hP.out]; exact HPX.out.symm, HSP, O3, B3⟩
    case round =>
     obtain ⟨s, b, J, g, c, hJ, rfl, rfl, hT, hSt, hBr, hBx⟩ := hrel
     rcases List.eq_nil_or_concat s with rfl | ⟨s', a, rfl⟩
     ·obtain rfl : 1 = J := hJ.out
      have PN := hid (show ([b] : List (Rat × Nat)).reverse = pv (qs.take (i + 1)) from hT.out)
      have BD := hid (hBr.out.call (Below.refl _ _).drew)
      have XD := hid (hBx.out.drew)
      clear hT hJ
      go_wp2_with fail
      refine held_plain [0, 1, 2, 3, 4, 5, 6, 7, 8, 9, 10, 11, 12, 13, 14, 15, 16, 17] 0 (fun _ => True) (by kernel_rfl) (by kernel_rfl) (by kernel_rfl) (by kernel_rfl) trivial ?_
      iterate 18
       refine ⟨_, rfl, ?_⟩
       apply Exists.intro
       first
        | (refine ⟨.inl ⟨by rfl, ?_⟩, ?_⟩
           ·(intro W' hW'; clear hW'; go_simp; try (with_reducible rfl)))
        | refine ⟨.inr ⟨by rfl, rfl⟩, ?_⟩
       (dsimp only [Act.put]; try simp only [List.setIfInBounds_toArray, List.set_cons_zero, List.set_cons_succ])
      refine wpAnyH_done (by kernel_rfl) ?_ _
      simp only [Only]
      go_wp2_with fail
      go_roundw
      case rel => exact ⟨i + 1, [b], by go_num, by have := HLT.out; omega, PN, hSt, BD, XD⟩
      case measure => simp [intOf] <;> (have := HLT.out; omega)
     ·rw [List.concat_eq_append] at hJ hT hSt hBr
      obtain ⟨qa, ka⟩ := a
      obtain ⟨qb, kb⟩ := b
      obtain ⟨p, hp⟩ : ∃ p, s'.length = p := ⟨_, rfl⟩
      have hJ2 : p + 2 = J := by have h := hJ.out; simp at h; omega
      obtain ⟨r, hr⟩ : ∃ r, p + 1 = r := ⟨_, rfl⟩
      have hat : (s' ++ [(qa, ka)] ++ [(qb, kb)])[p]? = some (qa, ka) := by rw [List.append_assoc, List.getElem?_append_right (by omega), hp, Nat.sub_self]; rfl
      have hbt : (s' ++ [(qa, ka)] ++ [(qb, kb)])[r]? = some (qb, kb) := by rw [List.append_assoc, List.getElem?_append_right (by omega), hp, show r - p = 1 by omega]; rfl
      obtain ⟨ma, aa, na, ca, ba, da, ea, hg0, hg1, k0, k1, k2, k3, hQa⟩ := hBr.out.at hat
      obtain ⟨mb, ab, nb, cb, bb, db, eb, -, -, l0, l1, l2, l3, hQb⟩ := hBr.out.at hbt
      dsimp only at k3 l3 hQa hQb
      have ia := hSt.out.all (qa, ka) (by simp)
      have ib := hSt.out.all (qb, kb) (by simp)
      have i64 : i + 1 ≤ 64 := by have := HLT.out; have := HNN.out; omega
      have ja := hSt.out.le (b := (qa, ka)) (by simp)
      have jb := hSt.out.le (b := (qb, kb)) (by simp)
      have la := hSt.out.lim i64 (b := (qa, ka)) (by simp)
      have lb := hSt.out.lim i64 (b := (qb, kb)) (by simp)
      have da' := bm_dig hSt.out i64 (b := (qa, ka)) (by simp)
      have db' := bm_dig hSt.out i64 (b := (qb, kb)) (by simp)
      dsimp only at ia ib ja jb la lb
      have lma := Lim.of da' (by omega); have lmb := Lim.of db' (by omega)
      have PMa := fun V hq => hid (s_mean V ma aa na ca ba da ea qa ka hq ia.1 (by omega) la)
      have PMb := fun V hq => hid (s_mean V mb ab nb cb bb db eb qb kb hq ib.1 (by omega) lb)
      have PCm := fun V v u hv hu => hid (f_Cmp V v u (bm (qa, ka)) (bm (qb, kb)) hv hu lma.1 lma.2 lmb.1 lmb.2)
      have PMg := fun V hr hq => hid (s_merge V w1.heap.size g J c p (s' ++ [(qa, ka)] ++ [(qb, kb)]) (qa, ka) hr hat mb ab nb cb bb db eb qb kb hq (by dsimp only; omega) la lb)
      have HT := hid (show (if bm (qb, kb) < bm (qa, ka) then pv1 (qa + qb, ka + kb) s'.reverse else (qb, kb) :: (qa, ka) :: s'.reverse) = pv (qs.take (i + 1)) by
       have h := hT.out
       rw [List.reverse_append] at h
       exact h)
      have hcz : 0 < cmF (bm (qa, ka)) (bm (qb, kb)) ↔ bm (qb, kb) < bm (qa, ka) := by
       have h1 := (cmF_sign (bm (qa, ka)) (bm (qb, kb))).1
       have h2 : ordQ (bm (qa, ka)) (bm (qb, kb)) ≤ 0 ↔ bm (qa, ka) ≤ bm (qb, kb) := ordQ_le_iff
       rw [h1]
       constructor
       ·intro h; exact Rat.not_le.1 fun e => by have := h2.2 e; omega
       ·intro h; have := mt h2.1 (Rat.not_le.2 h); omega
      obtain ⟨z, hz⟩ : ∃ z, cmF (bm (qa, ka)) (bm (qb, kb)) = z := ⟨_, rfl⟩
      rw [hz] at PCm hcz
      have HCZ := hid hcz
      have t1 : decide ((1 : Int) < (J : Int)) = true := decide_eq_true (by omega)
      have t1' : decide (1 < J) = true := decide_eq_true (by omega)
      have wp : IntKind.i64.wrap ((J : Int) - 2) = (p : Int) := by rw [IntWalk.i64_in _ ⟨by omega, by have := hSt.out.len; simp at this; omega⟩]; omega
      have wr' : IntKind.i64.wrap ((J : Int) - 1) = (r : Int) := by rw [IntWalk.i64_in _ ⟨by omega, by have := hSt.out.len; simp at this; omega⟩]; omega
      have f3 : (0 : Int) ≤ (p : Int) := by omega
      have f4 : (p : Int) < (J : Int) := by omega
      have f5 : (0 : Int) ≤ (r : Int) := by omega
      have f6 : (r : Int) < (J : Int) := by omega
      have KK : Hid (∀ V, Below wr.heap.size wr V → V.cell? ⟨g, p * 4, none⟩ = some (.bool ma) ∧ V.cell? ⟨g, p * 4 + 1, none⟩ = some (.slice aa na ca) ∧ V.cell? ⟨g, p * 4 + 2, none⟩ = some (.slice ba da ea) ∧ V.cell? ⟨g, p * 4 + 3, none⟩ = some (.int .i64 (ka : Nat)) ∧ V.cell? ⟨g, r * 4, none⟩ = some (.bool mb) ∧ V.cell? ⟨g, r * 4 + 1, none⟩ = some (.slice ab nb cb) ∧ V.cell? ⟨g, r * 4 + 2, none⟩ = some (.slice bb db eb) ∧ V.cell? ⟨g, r * 4 + 3, none⟩ = some (.int .i64 (kb : Nat))) := fun V hV =>
       ⟨(hV.cell (p := ⟨g, p * 4, none⟩) hg1).trans k0, (hV.cell (p := ⟨g, p * 4 + 1, none⟩) hg1).trans k1, (hV.cell (p := ⟨g, p * 4 + 2, none⟩) hg1).trans k2, (hV.cell (p := ⟨g, p * 4 + 3, none⟩) hg1).trans k3, (hV.cell (p := ⟨g, r * 4, none⟩) hg1).trans l0, (hV.cell (p := ⟨g, r * 4 + 1, none⟩) hg1).trans l1, (hV.cell (p := ⟨g, r * 4 + 2, none⟩) hg1).trans l2, (hV.cell (p := ⟨g, r * 4 + 3, none⟩) hg1).trans l3⟩
      obtain ⟨aq, cq, e9, hJc, hc63⟩ := hBr.out.slice
      have hJc : J ≤ c := by
       injection e9 with e1 e2 e3
       rw [e3]; rw [← e2] at hJc; exact hJc
      have hc9 : c ≤ 9223372036854775807 := by
       injection e9 with e1 e2 e3
       rw [e3]; exact hc63
      have f7 : (r : Int) ≤ (c : Int) := by omega
      have QA := hid hQa; have QB := hid hQb
      have HP2 := hid hp; have HR2 := hid hr; have HJ2 := hid hJ2; have HG0 := hid hg0
      clear hat hbt k0 k1 k2 k3 l0 l1 l2 l3 hQa hQb ia ib i64 ja jb la lb da' db' lma lmb hcz hz hp hr hJ2 hg0 hg1 e9 hJc hc63 hJ hT
      go_wp2_with fail
      refine held_plain [0, 1, 2, 3, 4, 5, 6, 7, 9, 10, 11, 12, 13] 5 (fun V => V.cell? ⟨g, p * 4, none⟩ = some (.bool ma) ∧ V.cell? ⟨g, p * 4 + 1, none⟩ = some (.slice aa na ca) ∧ V.cell? ⟨g, p * 4 + 2, none⟩ = some (.slice ba da ea) ∧ V.cell? ⟨g, p * 4 + 3, none⟩ = some (.int .i64 (ka : Nat)) ∧ V.cell? ⟨g, r * 4, none⟩ = some (.bool mb) ∧ V.cell? ⟨g, r * 4 + 1, none⟩ = some (.slice ab nb cb) ∧ V.cell? ⟨g, r * 4 + 2, none⟩ = some (.slice bb db eb) ∧ V.cell? ⟨g, r * 4 + 3, none⟩ = some (.int .i64 (kb : Nat))) (by kernel_rfl) (by kernel_rfl) (by kernel_rfl) (by kernel_rfl) (KK.out _ (Below.refl _ _).drew) ?_
      iterate 13
       refine ⟨_, rfl, ?_⟩
       apply Exists.intro
       refine ⟨.inl ⟨by rfl, ?_⟩, ?_⟩
       ·(intro W' hW'; obtain ⟨z1, z2, z3, z4, z5, z6, z7, z8⟩ := hW'; go_simp; try (with_reducible rfl))
       (dsimp only [Act.put]; try simp only [List.setIfInBounds_toArray, List.set_cons_zero, List.set_cons_succ])
      refine held_oneW (i := 8) (by kernel_rfl) (by rfl) (by rfl) ?_
      go_wp2_with fail
      refine (PMa _ (QA.out.call (Below.refl _ _).drew)).out.mono ?_; rintro e w6 ⟨⟨v6, rfl, hv6⟩, hb6⟩
      obtain ⟨m6, a6, n6, c6', b6, d6, e6, rfl⟩ := hv6.qv
      have y6 := hid (show Below wr.heap.size wr w6 from (Below.refl _ _).drew.trans hb6)
      have M6 := hid hv6
      clear hb6 hv6
      go_wp2_with fail
      refine ⟨KK.out _ y6.out, ?_⟩
      refine held_oneW (i := 14) (by kernel_rfl) (by rfl) (by rfl) ?_
      go_wp2_with fail
      refine (PMb _ (QB.out.call y6.out)).out.mono ?_; rintro e w7 ⟨⟨v7, rfl, hv7⟩, hb7⟩
      obtain ⟨m7, a7, n7, c7, b7, d7, e7, rfl⟩ := hv7.qv
      have y7 := hid (bnext y6.out hb7)
      have M7 := hid (M6.out.call hb7); have N7 := hid hv7
      clear hb7 hv7
      go_wp2_with fail
      refine ⟨KK.out _ y7.out, ?_⟩
      refine held_oneW (i := 15) (by kernel_rfl) (by rfl) (by rfl) ?_
      go_wp2_with fail
      refine (PCm _ _ _ M7.out N7.out).out.mono ?_; rintro e w8 ⟨rfl, hb8⟩
      have y8 := hid (bnext y7.out hb8)
      have BR8 := hid (hBr.out.call y8.out); have BX8 := hid (hBx.out.trans (y8.out.mono hBx.out.size))
      clear hb8
      by_cases hlt2 : bm (qb, kb) < bm (qa, ka)
      ·have t2 : decide (0 < z) = true := decide_eq_true (HCZ.out.2 hlt2)
       have HT2 := hid (show pv1 (qa + qb, ka + kb) s'.reverse = pv (qs.take (i + 1)) by have h := HT.out; rw [if_pos hlt2] at h; exact h)
       have SM := hid (hSt.out.merge)
       clear hlt2
       go_wp2_with fail
       refine ⟨KK.out _ y8.out, ?_⟩
       refine held_more (is := [16, 17]) (g := 0) (by kernel_rfl) rfl (KK.out _ y8.out) (by kernel_rfl) ?_
       iterate 2
        refine ⟨_, rfl, ?_⟩
        apply Exists.intro
        refine ⟨.inl ⟨by rfl, ?_⟩, ?_⟩
        ·(intro W' hW'; obtain ⟨z1, z2, z3, z4, z5, z6, z7, z8⟩ := hW'; go_simp; try (with_reducible rfl))
        (dsimp only [Act.put]; try simp only [List.setIfInBounds_toArray, List.set_cons_zero, List.set_cons_succ])
       refine wpAnyH_done (by kernel_rfl) ?_ _
       simp only [Only]
       go_wp2_with fail
       refine held_lasts2 9 1 [] [(0, 3), (2, 3), (1, 2), (7, 8), (4, 7), (6, 7), (5, 6)] [0, 1, 2, 3, 4, 5, 6, 7, 8] 0 (fun V => V.cell? ⟨g, r * 4, none⟩ = some (.bool mb) ∧ V.cell? ⟨g, r * 4 + 1, none⟩ = some (.slice ab nb cb) ∧ V.cell? ⟨g, r * 4 + 2, none⟩ = some (.slice bb db eb) ∧ V.cell? ⟨g, r * 4 + 3, none⟩ = some (.int .i64 (kb : Nat))) (by kernel_rfl) (by kernel_rfl) (by kernel_rfl) (by kernel_rfl) (by kernel_rfl) (by kernel_rfl) (by kernel_rfl) (by kernel_rfl) (by kernel_rfl) (by kernel_rfl) (by kernel_rfl) (by kernel_rfl) (by obtain ⟨-, -, -, -, h⟩ := KK.out _ y8.out.drew; exact h) ?_
       iterate 9
        refine ⟨_, rfl, ?_⟩
        apply Exists.intro
        refine ⟨.inl ⟨by rfl, ?_⟩, ?_⟩
        ·(intro W' hW'; obtain ⟨z5, z6, z7, z8⟩ := hW'; go_simp; try (with_reducible rfl))
        (dsimp only [Act.put]; try simp only [List.setIfInBounds_toArray, List.set_cons_zero, List.set_cons_succ])
       refine wpAnyH_done (by kernel_rfl) ?_ _
       simp only [Only, ThenL, List.drop_succ_cons, List.drop_zero]
       go_wp2_with fail
       refine (PMg _ (BR8.out.call (Below.refl _ _).drew) (QB.out.call y8.out.drew)).out.mono ?_; rintro e w9 ⟨rfl, hb9, hg9⟩
       have BX9 := hid ((BX8.out.drew).grown hg9 (by show _ ≤ _; exact BX8.out.size) (fun k e => by injection e with e; have := HG0.out; omega))
       have hset : (s' ++ [(qa, ka)] ++ [(qb, kb)]).set p (qa + qb, ka + kb) = s' ++ [(qa + qb, ka + kb)] ++ [(qb, kb)] := by
        rw [List.append_assoc, List.set_append_right _ _ (by have := HP2.out; omega), HP2.out, Nat.sub_self, List.append_assoc]; rfl
       have h9 : BRow w1.heap.size w9 (.slice (some ⟨g, 0, none⟩) J c) (s' ++ [(qa + qb, ka + kb)] ++ [(qb, kb)]) := by rw [← hset]; exact hb9
       have h10 := h9.cut (m := r) (by simp; have := HP2.out; have := HR2.out; omega)
       rw [List.take_append_of_le_length (by simp; have := HP2.out; have := HR2.out; omega), List.take_of_length_le (by simp; have := HP2.out; have := HR2.out; omega)] at h10
       have BR9 := hid h10
       clear hb9 hg9 hset h9 h10
       go_wp2_with fail
       try simp only [Only]
       try go_wp2_with fail
       go_roundw
       case rel => exact ⟨s', (qa + qb, ka + kb), r, g, c, by have := HP2.out; have := HR2.out; show _ = _; omega, rfl, rfl, HT2, SM, BR9, BX9⟩
       case measure => simp [intOf] <;> (have := HR2.out; have := HJ2.out; omega)
      ·have t2 : decide (0 < z) = false := decide_eq_false fun e => hlt2 (HCZ.out.1 e)
       have PN := hid (show (s' ++ [(qa, ka)] ++ [(qb, kb)]).reverse = pv (qs.take (i + 1)) by
        have h := HT.out
        rw [if_neg hlt2] at h
        rw [← h]; simp)
       clear hlt2
       go_wp2_with fail
       refine ⟨KK.out _ y8.out, ?_⟩
       refine held_more (is := [16, 17]) (g := 0) (by kernel_rfl) rfl (KK.out _ y8.out) (by kernel_rfl) ?_
       iterate 2
        refine ⟨_, rfl, ?_⟩
        apply Exists.intro
        refine ⟨.inl ⟨by rfl, ?_⟩, ?_⟩
        ·(intro W' hW'; obtain ⟨z1, z2, z3, z4, z5, z6, z7, z8⟩ := hW'; go_simp; try (with_reducible rfl))
        (dsimp only [Act.put]; try simp only [List.setIfInBounds_toArray, List.set_cons_zero, List.set_cons_succ])
       refine wpAnyH_done (by kernel_rfl) ?_ _
       simp only [Only]
       go_wp2_with fail
       go_roundw
       case rel => exact ⟨i + 1, s' ++ [(qa, ka)] ++ [(qb, kb)], by go_num, by have := HLT.out; omega, PN, hSt, BR8, BX8⟩
       case measure => simp [intOf] <;> (have := HLT.out; omega)
   ·obtain rfl : i = N := by omega
    have q9 : decide ((i : Int) < (i : Int)) = false := by simp
    have HM := hid (show mnL qs = outL st from mn_is (by rw [hP.out, List.take_of_length_le (by rw [HN.out]; exact Nat.le_refl _)]))
    obtain ⟨x0, hx0⟩ : ∃ b, st[0]? = some b := ⟨_, List.getElem?_eq_getElem (by
     rcases Nat.eq_zero_or_pos st.length with e | e
     ·have h := hS.out.sum
      rw [List.length_eq_zero_iff.1 e] at h
      have := HNN.out.1
      simp at h; omega
     ·exact e)⟩
    obtain ⟨K, hK⟩ : ∃ k, st.length = k := ⟨_, rfl⟩
    have hK0 : 0 < K := by rw [← hK]; exact (List.getElem?_eq_some_iff.1 hx0).1
    have HK := hid hK; have HK64 := hid (show K ≤ 64 by have := hS.out.len; have := HNN.out; omega)
    obtain ⟨g, c6, rfl, hgB, hg, hKc, hc63, -⟩ := hO.out.nz hK hK0
    have HOL := hid (outL_len hS.out)
    have HLim := hid (fun (q : Rat) (hq : q ∈ outL st) => show Lim q by
     unfold outL at hq
     obtain ⟨b, hb, hq⟩ := List.mem_flatMap.1 hq
     rw [List.eq_of_mem_replicate hq]
     exact Lim.of (bm_dig hS.out HNN.out.2 hb) (by omega))
    have HWR := fun V v h hV => hid (s_write V wr.heap.size v (outL st) h (by rw [HOL.out]; exact HNN.out.2) HLim.out hV)
    have HBm := hid (bnext y1.out hB.out)
    obtain ⟨wp, hwp⟩ : ∃ q, q = wr := ⟨_, rfl⟩
    subst hwp
    clear hlt hi' hx0 hK hK0 hgB hP
    go_wp2_with fail
    go_loopw [10, 12, 71] (fun s10 s12 s71 wx => ∃ p : Nat, s71 = .int .i64 (p : Nat) ∧ p ≤ K ∧ Hid (VRow wp.heap.size wx s10 (outL (st.take p))) ∧ Hid (Below wp.heap.size wp wx)) (fun s10 s12 s71 wx => K - (intOf s71).toNat)
    case atStart => exact ⟨0, rfl, Nat.zero_le _, VRow.nil _ _, Below.refl _ _⟩
    case round =>
     obtain ⟨p, e71, hp, hV, hX⟩ := hrel
     obtain ⟨s10, hs10⟩ : ∃ x, x = u10 := ⟨_, rfl⟩
     subst hs10
     subst e71
     by_cases hltp : p < K
     ·obtain ⟨b, hb⟩ : ∃ b, st[p]? = some b := ⟨_, List.getElem?_eq_getElem (by rw [HK.out]; exact hltp)⟩
      obtain ⟨mb, ab, nb, cb, bb, db, eb, -, -, l0, l1, l2, l3, hQb⟩ := (hO.out.call hX.out).at hb
      have hbm := List.mem_of_getElem? hb
      have ib := hS.out.all b hbm
      have jb := hS.out.le hbm
      have lb := hS.out.lim HNN.out.2 hbm
      have HNX := hid (outL_take hb)
      obtain ⟨qb, kb⟩ := b
      dsimp only at l3 hQb ib jb lb HNX
      have hkb64 : kb ≤ 64 := by have := HNN.out; omega
      have PMb := fun V hq => hid (s_mean V mb ab nb cb bb db eb qb kb hq ib.1 hkb64 lb)
      have A1 := hid ((Below.refl wr.heap.size wr).alloc (Nat.le_refl _) (.cells #[.bool mb, .slice ab nb cb, .slice bb db eb, .int .i64 (kb : Nat)] 73))
      have X1 := hid (Blk.new wr #[.bool mb, .slice ab nb cb, .slice bb db eb, .int .i64 (kb : Nat)] 73)
      have QB := hid (hQb.call A1.out)
      have V1 := hid (hV.out.call A1.out)
      have B1 := hid (hX.out.trans (A1.out.mono hX.out.size))
      have KB := hid (show 1 ≤ kb ∧ kb ≤ 64 from ⟨ib.1, hkb64⟩)
      have HLTP := hid hltp
      have f1 : (0 : Int) ≤ (p : Int) := by omega
      have f2 : (p : Int) < (K : Int) := by omega
      have wi : IntKind.i64.wrap ((p : Int) + 1) = ((p + 1 : Nat) : Int) := by have := HK64.out; rw [IntWalk.i64_in _ ⟨by omega, by omega⟩]; omega
      obtain ⟨W, hW⟩ : ∃ W, wr.alloc (.cells #[.bool mb, .slice ab nb cb, .slice bb db eb, .int .i64 (kb : Nat)] 73) = W := ⟨_, rfl⟩
      rw [hW] at A1 X1 QB V1 B1
      have HVL := hid (show (outL (st.take p)).length ≤ 64 by
       have h1 : (outL (st.take (p + 1))).length ≤ (outL st).length := by
        have h2 : outL st = outL (st.take (p + 1)) ++ outL (st.drop (p + 1)) := by unfold outL; rw [← List.flatMap_append, List.take_append_drop]
        rw [h2, List.length_append]; omega
       rw [HNX.out, List.length_append, HOL.out] at h1
       have := HNN.out
       omega)
      have KK : Hid (∀ V, Below W.heap.size W V → V.cell? ⟨wr.heap.size, 0, none⟩ = some (.bool mb) ∧ V.cell? ⟨wr.heap.size, 1, none⟩ = some (.slice ab nb cb) ∧ V.cell? ⟨wr.heap.size, 2, none⟩ = some (.slice bb db eb) ∧ V.cell? ⟨wr.heap.size, 3, none⟩ = some (.int .i64 (kb : Nat))) := fun V hV => ⟨(X1.out.call hV).cell 0, (X1.out.call hV).cell 1, (X1.out.call hV).cell 2, (X1.out.call hV).cell 3⟩
      have GW := hid (show wr.heap.size < W.heap.size from X1.out.lt)
      have OWN := hid (show ∀ go, s10.ownBlock = some go → go < wr.heap.size from fun go hgo => by
       obtain ⟨cs, hk, -⟩ := hV.out.ex
       exact (hk.own.lt go hgo).2)
      clear hb hbm ib jb lb hkb64 hQb hltp hp
      go_wp2_with fail
      try rw [hW]
      clear hW l0 l1 l2 l3
      refine held_plain [0, 1, 4, 5] 5 (fun V => V.cell? ⟨wr.heap.size, 0, none⟩ = some (.bool mb) ∧ V.cell? ⟨wr.heap.size, 1, none⟩ = some (.slice ab nb cb) ∧ V.cell? ⟨wr.heap.size, 2, none⟩ = some (.slice bb db eb) ∧ V.cell? ⟨wr.heap.size, 3, none⟩ = some (.int .i64 (kb : Nat))) (by kernel_rfl) (by kernel_rfl) (by kernel_rfl) (by kernel_rfl) (KK.out _ (Below.refl _ _).drew) ?_
      iterate 4
       refine ⟨_, rfl, ?_⟩
       apply Exists.intro
       refine ⟨.inl ⟨by rfl, ?_⟩, ?_⟩
       ·(intro W' hW'; obtain ⟨z1, z2, z3, z4⟩ := hW'; go_simp; try (with_reducible rfl))
       (dsimp only [Act.put]; try simp only [List.setIfInBounds_toArray, List.set_cons_zero, List.set_cons_succ])
      refine held_one (i := 2) (by kernel_rfl) (by rfl) (by rfl) ?_
      go_wp2_with fail
      refine (PMb _ (QB.out.call (Below.refl _ _).drew)).out.mono ?_; rintro e w6 ⟨⟨v6, rfl, hv6⟩, hb6⟩
      obtain ⟨m6, a6, n6, c6', b6, d6, e6, rfl⟩ := hv6.qv
      have y6 := hid (show Below W.heap.size W w6 from (Below.refl _ _).drew.trans hb6)
      have M6 := hid hv6
      clear hb6 hv6
      go_wp2_with fail
      refine ⟨KK.out _ y6.out, ?_⟩
      refine held_one (i := 3) (by kernel_rfl) (by rfl) (by rfl) ?_
      go_wp2_with fail
      have A7 := hid ((Below.refl w6.heap.size w6).alloc (Nat.le_refl _) (.cells #[.bool m6, .slice a6 n6 c6', .slice b6 d6 e6] 57))
      have Z7 := hid (Blk.new w6 #[.bool m6, .slice a6 n6 c6', .slice b6 d6 e6] 57)
      have M7 := hid (M6.out.call A7.out)
      have y7 := hid (bnext y6.out A7.out)
      refine ⟨KK.out _ y7.out, ?_⟩
      refine held_one (i := 6) (by kernel_rfl) (by rfl) (by rfl) ?_
      go_wp2_with fail
      refine (s_RepF _ _ kb _ _ _ KB.out.1 (by have := KB.out; omega) Z7.out rfl rfl rfl).mono ?_; rintro e w8 ⟨rfl, hb8, hy8⟩
      have y8 := hid (bnext y7.out hy8)
      obtain ⟨cr, hcr, hkr, hqr⟩ := rp_row (B := w6.heap.size) hb8 (by simp) (by have := KB.out; omega) (M7.out.call hy8)
      have HKR := hid hkr; have HQR := hid hqr
      have LCR := hid (show cr.length = kb by rw [hcr, List.length_replicate])
      obtain ⟨cs, hk, hQL⟩ := (V1.out.call y8.out).ex
      have HKV := hid hk; have HQV := hid hQL
      have LCS := hid (show cs.length = (outL (st.take p)).length from hQL.len)
      have B8 := hid (B1.out.trans (y8.out.mono B1.out.size))
      have HC8 := hid hqr.cells
      have SRC := hid (show ∀ j u, cr.flatten[j]? = some u → w8.cell? ((⟨w6.heap.size + 1, 0, none⟩ : Addr).add j) = some u from fun j u hu => by
       have h := hkr.own.cells (g := _) rfl j u hu
       simpa using h)
      clear hb8 hy8 hcr hkr hqr hk hQL
      go_wp2_with fail
      refine ⟨KK.out _ y8.out, ?_⟩
      refine held_one (i := 7) (by kernel_rfl) (by rfl) (by rfl) ?_
      refine wpList_append_krow _ .u64 rfl (.tmp 75) (.tmp 81) 53 rfl wp.heap.size 57 i0 (.agg #[.bool false, .slice none 0 0, .slice none 0 0]) 3 56 Tryz.underlying53 hi hz0 hz1 hz2 rfl (by decide) noz_fr _ cs rfl HKV.out ⟨w6.heap.size + 1, 0, none⟩ kb kb cr rfl LCR.out HKR.out.all SRC.out HC8.out.1 HC8.out.2 (by rw [LCS.out]; have := HVL.out; have := KB.out; unfold maxLen; omega) (by rw [LCS.out]; have := HVL.out; have := KB.out; omega) B8.out.size ?_
      intro v' w9 hown hgrow hkeep hat
      have V9 := hid (show VRow wp.heap.size w9 v' (outL (st.take (p + 1))) by rw [HNX.out]; exact ⟨cs ++ cr, hown, (HQV.out.append HQR.out).keep hkeep⟩)
      have B9 := hid (krow_below HKV.out B8.out hgrow)
      have hblk := hgrow.block wr.heap.size (by have := GW.out; have := y8.out.size; omega) (fun e => by have := OWN.out _ e.symm; omega)
      have KS : Hid (w9.cell? ⟨wr.heap.size, 0, none⟩ = some (.bool mb) ∧ w9.cell? ⟨wr.heap.size, 1, none⟩ = some (.slice ab nb cb) ∧ w9.cell? ⟨wr.heap.size, 2, none⟩ = some (.slice bb db eb) ∧ w9.cell? ⟨wr.heap.size, 3, none⟩ = some (.int .i64 (kb : Nat))) := by
       obtain ⟨x1, x2, x3, x4⟩ := KK.out _ y8.out
       exact ⟨(World.cell?_of_block hblk).trans x1, (World.cell?_of_block hblk).trans x2, (World.cell?_of_block hblk).trans x3, (World.cell?_of_block hblk).trans x4⟩
      clear hown hgrow hkeep hat hblk
      go_wp2_with fail
      refine ⟨KS.out, ?_⟩
      refine held_more (is := [8]) (g := 0) (by kernel_rfl) rfl KS.out (by kernel_rfl) ?_
      iterate 1
       refine ⟨_, rfl, ?_⟩
       apply Exists.intro
       refine ⟨.inl ⟨by rfl, ?_⟩, ?_⟩
       ·(intro W' hW'; obtain ⟨z1, z2, z3, z4⟩ := hW'; go_simp; try (with_reducible rfl))
       (dsimp only [Act.put]; try simp only [List.setIfInBounds_toArray, List.set_cons_zero, List.set_cons_succ])
      refine wpAnyH_done (by kernel_rfl) ?_ _
      simp only [Only]
      go_wp2_with fail
      go_roundw
      case rel => exact ⟨p + 1, by go_num, by have := HLTP.out; omega, V9, B9⟩
      case measure => simp [intOf] <;> (have := HLTP.out; omega)
     ·obtain rfl : p = K := by omega
      have q8 : decide ((p : Int) < (p : Int)) = false := by simp
      have RE := hid (show VRow wp.heap.size wr s10 (outL st) by have h := hV.out; rw [List.take_of_length_le (by rw [HK.out]; exact Nat.le_refl _)] at h; exact h)
      have BM := hid (bnext HBm.out hX.out)
      clear hltp hp hV
      go_wp2_with fail
      refine (HWR _ _ RE.out (HL.out.call BM.out)).out.mono ?_; rintro e w8 ⟨⟨u, rfl, hu⟩, hb8⟩
      have y8 := hid (bnext BM.out hb8)
      have U8 := hid hu
      clear hb8 hu
      go_wp2_with fail
      go_ret2
      exact ⟨⟨_, by rw [HM.out]; rfl, by rw [HM.out]; exact U8.out⟩, y8.out⟩
theorem k_SameI (w : World) (v u : Value) (L M : List Int) (hv : Row w v (zs L)) (hu : Row w u (zs M)) :
 Calls Tryz.prog 30 #[v, u] w fun e w' => e = .returned (.bool (decide (L = M))) ∧ Below w.heap.size w w' := by
 obtain ⟨a, c, rfl, h1, h2, h3⟩ := hv.openZ
 obtain ⟨a', c', rfl, h1', h2', h3'⟩ := hu.openZ
 obtain ⟨n, hn⟩ : ∃ n, L.length = n := ⟨_, rfl⟩
 obtain ⟨m, hm⟩ : ∃ n, M.length = n := ⟨_, rfl⟩
 rw [hn] at h1 ⊢
 rw [hm] at h1' ⊢
 have H3 := hid h3; have H3' := hid h3'; have HN := hid hn; have HM := hid hm
 clear hv hu h3 h3'
 by_cases hnm : n = m
 ·subst hnm
  have q0 : ((n : Int) != (n : Int)) = false := by simp
  clear hn hm
  go_enter Tryz.func30, Tryz.ntmps30
  go_wp2_with fail
  go_loopw [5] (fun ii wr => ∃ i : Nat, ii = .int .i64 (i : Nat) ∧ i ≤ n ∧ Hid (∀ j, j < i → L[j]? = M[j]?) ∧ Hid (Below w.heap.size w wr)) (fun ii wr => n - (intOf ii).toNat)
  case atStart => exact ⟨0, rfl, Nat.zero_le _, fun j hj => absurd hj (by omega), Below.refl _ _⟩
  case round =>
   obtain ⟨i, rfl, hi, hI, hB⟩ := hrel
   by_cases hlt : i < n
   ·obtain ⟨x, hx⟩ : ∃ x, L[i]? = some x := ⟨_, List.getElem?_eq_getElem (by rw [HN.out]; exact hlt)⟩
    obtain ⟨y, hy⟩ : ∃ x, M[i]? = some x := ⟨_, List.getElem?_eq_getElem (by rw [HM.out]; exact hlt)⟩
    obtain ⟨g, o, rfl, hg, k1⟩ := H3.out i x hx
    obtain ⟨g', o', rfl, hg', k1'⟩ := H3'.out i y hy
    have HX := hid hx; have HY := hid hy
    have m1 := (hB.out.cell (p := ⟨g, o + i, none⟩) hg).trans k1
    have m3 := (hB.out.cell (p := ⟨g', o' + i, none⟩) hg').trans k1'
    have b1 : (0 : Int) ≤ (i : Int) := by omega
    have b2 : (i : Int) < (n : Int) := by omega
    have wi : IntKind.i64.wrap ((i : Int) + 1) = (i : Int) + 1 := by rw [IntWalk.i64_in _ ⟨by omega, by omega⟩]
    clear k1 k1' hx hy hg hg'
    by_cases he1 : x = y
    ·subst he1
     have n1 : (x != x) = false := by simp
     go_wp2_with fail
     refine held_plain [0, 1, 2, 3, 4, 5, 6, 7, 8] 0 (fun w' => w'.cell? ⟨g, o + i, none⟩ = some (.int .i64 x) ∧ w'.cell? ⟨g', o' + i, none⟩ = some (.int .i64 x)) (by kernel_rfl) (by kernel_rfl) (by kernel_rfl) (by kernel_rfl) ⟨m1, m3⟩ ?_
     iterate 9
      refine ⟨_, rfl, ?_⟩
      apply Exists.intro
      refine ⟨.inl ⟨by rfl, ?_⟩, ?_⟩
      ·(intro W' hW'; obtain ⟨q1, q2⟩ := hW'; go_simp; try (with_reducible rfl))
      (dsimp only [Act.put]; try simp only [List.setIfInBounds_toArray, List.set_cons_zero, List.set_cons_succ])
     refine wpAnyH_done (by kernel_rfl) ?_ _
     simp only [Only]
     go_wp2_with fail
     go_roundw
     case rel => exact ⟨i + 1, rfl, by omega, fun j hj => by
      rcases Nat.lt_or_ge j i with h | h
      ·exact hI.out j h
      ·obtain rfl : j = i := by omega
       rw [HX.out, HY.out], hB.out.drew⟩
     case measure => simp [intOf] <;> omega
    ·have n1 : (x != y) = true := by simpa using he1
     have hne : decide (L = M) = false := by
      rw [decide_eq_false_iff_not]; rintro rfl
      have := HX.out.symm.trans HY.out
      simp only [Option.some.injEq] at this
      exact he1 this
     have HNE := hid hne
     clear hne he1
     go_wp2_with fail
     refine held_plain [0, 1, 2, 3, 4, 5, 6, 7, 8] 0 (fun w' => w'.cell? ⟨g, o + i, none⟩ = some (.int .i64 x) ∧ w'.cell? ⟨g', o' + i, none⟩ = some (.int .i64 y)) (by kernel_rfl) (by kernel_rfl) (by kernel_rfl) (by kernel_rfl) ⟨m1, m3⟩ ?_
     iterate 9
      refine ⟨_, rfl, ?_⟩
      apply Exists.intro
      refine ⟨.inl ⟨by rfl, ?_⟩, ?_⟩
      ·(intro W' hW'; obtain ⟨q1, q2⟩ := hW'; go_simp; try (with_reducible rfl))
      (dsimp only [Act.put]; try simp only [List.setIfInBounds_toArray, List.set_cons_zero, List.set_cons_succ])
     refine wpAnyH_done (by kernel_rfl) ?_ _
     simp only [Only]
     go_wp2_with fail
     go_ret
     exact ⟨by rw [HNE.out]; rfl, hB.out.drew⟩
   ·obtain rfl : i = n := by omega
    have hE : L = M := by
     apply List.ext_getElem?
     intro j
     by_cases hj : j < i
     ·exact hI.out j hj
     ·rw [List.getElem?_eq_none (by rw [HN.out]; omega), List.getElem?_eq_none (by rw [HM.out]; omega)]
    have HE := hid hE
    have q1 : decide ((i : Int) < (i : Int)) = false := by simp
    clear hE
    go_wp2_with fail
    go_ret
    exact ⟨by rw [decide_eq_true HE.out]; rfl, hB.out⟩
 ·have hE : decide (L = M) = false := by rw [decide_eq_false_iff_not]; rintro rfl; exact hnm (hn.symm.trans hm)
  have HE := hid hE
  have q0 : ((n : Int) != (m : Int)) = true := by simp; omega
  clear hn hm hE
  go_enter Tryz.func30, Tryz.ntmps30
  go_wp2_with fail
  go_ret
  exact ⟨by rw [HE.out]; rfl, Below.refl _ _⟩
theorem rowN_lit (w : World) (L : List ByteArray) (cs : Array Value) (n b : Nat) (hc : cs = (strs L).toArray) (hb : w.heap.size = b) (hn : L.length = n) (hL : n ≤ 1000) : Row (w.alloc (.cells cs 23)) (.slice (some ⟨b, 0, none⟩) n n) (strs L) := by
 subst hc hb
 exact Row.of_blk (Blk.new w _ _) (by rw [strs_length]; exact hn) (by unfold maxLen; omega) (fun i x h => by rw [List.getElem?_toArray]; exact h) (Nat.le_refl _) (by unfold maxLen; omega)
theorem rowI_lit (w : World) (L : List Int) (cs : Array Value) (n b : Nat) (hc : cs = (zs L).toArray) (hb : w.heap.size = b) (hn : L.length = n) (hL : n ≤ 1000) : Row (w.alloc (.cells cs 3)) (.slice (some ⟨b, 0, none⟩) n n) (zs L) := by
 subst hc hb
 exact Row.of_blk (Blk.new w _ _) (by rw [zs_length]; exact hn) (by unfold maxLen; omega) (fun i x h => by rw [List.getElem?_toArray]; exact h) (Nat.le_refl _) (by unfold maxLen; omega)
theorem w_lives29 (w : World) (hL : Lay w) :
 Calls Tryz.prog 9 #[] w fun e w' => e = .returned (.bool true) ∧ Below w.heap.size w w' := by
 have HL := hid hL
 have PX := fun V v hv hV => hid (s_Simplex V v [⟨#[51]⟩, ⟨#[45, 49]⟩, ⟨#[49]⟩] ⟨#[51]⟩ hv (by intro s hs; simp at hs; rcases hs with rfl | rfl | rfl <;> decide) (by decide) hV (by decide))
 rw [ls_sx, ls_sxL] at PX
 have A1 := hid ((Below.refl w.heap.size w).alloc (Nat.le_refl _) (.cells #[.string ⟨#[51]⟩, .string ⟨#[45, 49]⟩, .string ⟨#[49]⟩] 23))
 have R1 := hid (rowN_lit w [⟨#[51]⟩, ⟨#[45, 49]⟩, ⟨#[49]⟩] _ 3 w.heap.size rfl rfl rfl (by omega))
 have PM := fun V v hv hV => hid (s_Monotone V v [⟨#[49]⟩, ⟨#[51]⟩, ⟨#[50]⟩, ⟨#[50]⟩, ⟨#[53]⟩] hv (by intro s hs; simp at hs; rcases hs with rfl | rfl | rfl | rfl <;> decide) hV)
 rw [ls_mn, ls_mnL] at PM
 have PR := fun V v hv hV => hid (s_Round V v [⟨#[52, 47, 51]⟩, ⟨#[52, 47, 51]⟩, ⟨#[52, 47, 51]⟩] hv (by intro s hs; simp at hs; rcases hs with rfl <;> decide) (by decide) hV)
 rw [ls_rd, ls_rdL] at PR
 have PI := fun V u v hu hv => hid (k_SameI V u v [2, 1, 1] [2, 1, 1] hu hv)
 have PS1 := fun V u v hu hv => hid (k_SameS V u v [⟨#[53, 47, 50]⟩, ⟨#[48]⟩, ⟨#[49, 47, 50]⟩] [⟨#[53, 47, 50]⟩, ⟨#[48]⟩, ⟨#[49, 47, 50]⟩] hu hv)
 have PS2 := fun V u v hu hv => hid (k_SameS V u v [⟨#[49]⟩, ⟨#[55, 47, 51]⟩, ⟨#[55, 47, 51]⟩, ⟨#[55, 47, 51]⟩, ⟨#[53]⟩] [⟨#[49]⟩, ⟨#[55, 47, 51]⟩, ⟨#[55, 47, 51]⟩, ⟨#[55, 47, 51]⟩, ⟨#[53]⟩] hu hv)
 rw [decide_eq_true rfl] at PI PS1 PS2
 clear hL
 go_enter Tryz.func9, Tryz.ntmps9
 go_wp2_with fail
 refine (PX _ _ R1.out (HL.out.call A1.out)).out.mono ?_; rintro e w1 ⟨⟨u1, rfl, hu1⟩, hb1⟩
 have y1 := hid (bnext A1.out hb1)
 have U1 := hid hu1
 obtain ⟨a1, k1, rfl, -, -, -⟩ := hu1.openS
 clear hb1 hu1
 have A2 := hid ((Below.refl w1.heap.size w1).alloc (Nat.le_refl _) (.cells #[.string ⟨#[49]⟩, .string ⟨#[51]⟩, .string ⟨#[50]⟩, .string ⟨#[50]⟩, .string ⟨#[53]⟩] 23))
 have R2 := hid (rowN_lit w1 [⟨#[49]⟩, ⟨#[51]⟩, ⟨#[50]⟩, ⟨#[50]⟩, ⟨#[53]⟩] _ 5 w1.heap.size rfl rfl rfl (by omega))
 go_wp2_with fail
 refine (PM _ _ R2.out (HL.out.call (bnext y1.out A2.out))).out.mono ?_; rintro e w2 ⟨⟨u2, rfl, hu2⟩, hb2⟩
 have b2 := hid (bnext A2.out hb2)
 have y2 := hid (bnext y1.out b2.out)
 have U1b := hid (U1.out.call b2.out)
 have U2 := hid hu2
 obtain ⟨a2, k2, rfl, -, -, -⟩ := hu2.openS
 clear hb2 hu2
 have A3 := hid ((Below.refl w2.heap.size w2).alloc (Nat.le_refl _) (.cells #[.string ⟨#[52, 47, 51]⟩, .string ⟨#[52, 47, 51]⟩, .string ⟨#[52, 47, 51]⟩] 23))
 have R3 := hid (rowN_lit w2 [⟨#[52, 47, 51]⟩, ⟨#[52, 47, 51]⟩, ⟨#[52, 47, 51]⟩] _ 3 w2.heap.size rfl rfl rfl (by omega))
 go_wp2_with fail
 refine (PR _ _ R3.out (HL.out.call (bnext y2.out A3.out))).out.mono ?_; rintro e w3 ⟨⟨u3, rfl, hu3⟩, hb3⟩
 have b3 := hid (bnext A3.out hb3)
 have y3 := hid (bnext y2.out b3.out)
 have U1c := hid (U1b.out.call b3.out)
 have U2c := hid (U2.out.call b3.out)
 have U3 := hid hu3
 obtain ⟨a3, k3, rfl, -, -, -⟩ := hu3.openZ
 clear hb3 hu3
 have A4 := hid ((Below.refl w3.heap.size w3).alloc (Nat.le_refl _) (.cells #[.string ⟨#[53, 47, 50]⟩, .string ⟨#[48]⟩, .string ⟨#[49, 47, 50]⟩] 23))
 have R4 := hid (rowN_lit w3 [⟨#[53, 47, 50]⟩, ⟨#[48]⟩, ⟨#[49, 47, 50]⟩] _ 3 w3.heap.size rfl rfl rfl (by omega))
 go_wp2_with fail
 refine (PS1 _ _ _ (U1c.out.call A4.out) R4.out).out.mono ?_; rintro e w4 ⟨rfl, hb4⟩
 have b4 := hid (bnext A4.out hb4)
 have y4 := hid (bnext y3.out b4.out)
 have U2d := hid (U2c.out.call b4.out)
 have U3d := hid (U3.out.call b4.out)
 clear hb4
 have A5 := hid ((Below.refl w4.heap.size w4).alloc (Nat.le_refl _) (.cells #[.string ⟨#[49]⟩, .string ⟨#[55, 47, 51]⟩, .string ⟨#[55, 47, 51]⟩, .string ⟨#[55, 47, 51]⟩, .string ⟨#[53]⟩] 23))
 have R5 := hid (rowN_lit w4 [⟨#[49]⟩, ⟨#[55, 47, 51]⟩, ⟨#[55, 47, 51]⟩, ⟨#[55, 47, 51]⟩, ⟨#[53]⟩] _ 5 w4.heap.size rfl rfl rfl (by omega))
 go_wp2_with fail
 refine (PS2 _ _ _ (U2d.out.call A5.out) R5.out).out.mono ?_; rintro e w5 ⟨rfl, hb5⟩
 have b5 := hid (bnext A5.out hb5)
 have y5 := hid (bnext y4.out b5.out)
 have U3e := hid (U3d.out.call b5.out)
 clear hb5
 have A6 := hid ((Below.refl w5.heap.size w5).alloc (Nat.le_refl _) (.cells #[.int .i64 2, .int .i64 1, .int .i64 1] 3))
 have R6 := hid (rowI_lit w5 [2, 1, 1] _ 3 w5.heap.size rfl rfl rfl (by omega))
 go_wp2_with fail
 refine (PI _ _ _ (U3e.out.call A6.out) R6.out).out.mono ?_; rintro e w6 ⟨rfl, hb6⟩
 go_wp2_with fail
 go_ret
 exact ⟨rfl, bnext y5.out (bnext A6.out hb6)⟩
theorem strs_set (l : List ByteArray) (i : Nat) (s : ByteArray) : (strs l).set i (.string s) = strs (l.set i s) := by
 unfold strs; rw [List.map_set]
end Go.Proofs.YtlimaehdmcnjaaaGreatDoor
namespace Go.Proofs.YtlimaehdmcnjaaaGreatDoor
open Go.RowKit
def sumN (c : Nat → Nat) : Nat → Nat
 | 0 => 0
 | i + 1 => sumN c i + c i
end Go.Proofs.YtlimaehdmcnjaaaGreatDoor
namespace Go.Proofs.YtlimaehdmcnjaaaGreatDoor
def cvo (f g : Nat → Nat) (n : Nat) : Nat := sumN (fun s => f s * g (n - s)) (n + 1)
def chi (c : Nat → Bool) (j : Nat) : Nat := if c j = true then 1 else 0
def dlt (j : Nat) : Nat := if j = 0 then 1 else 0
open Go.RowKit
def sdx (N D : Nat) : Nat → Nat × Bool
 | 0 => (N, decide (N ≠ 0))
 | j + 1 => if (sdx N D j).2 = true then (if D ≤ 2 * (sdx N D j).1 then (2 * (sdx N D j).1 - D, decide (2 * (sdx N D j).1 ≠ D)) else (2 * (sdx N D j).1, true)) else sdx N D j
def oneJ (N D : Nat) : Nat → Bool
 | 0 => false
 | j + 1 => (sdx N D j).2 && decide (D ≤ 2 * (sdx N D j).1)
def zeroJ (N D : Nat) : Nat → Bool
 | 0 => decide (N = 0)
 | j + 1 => (sdx N D j).2 && decide (2 * (sdx N D j).1 ≤ D)
def cw : Nat → (List UInt8 → Bool) → Nat
 | 0, P => if P [] = true then 1 else 0
 | n + 1, P => cw n (fun l => P (48 :: l)) + cw n (fun l => P (49 :: l))
open Go.Shelf
def pD (s : ByteArray) : ByteArray := if qE s = 0 then qD s else ⟨#[]⟩
end Go.Proofs.YtlimaehdmcnjaaaGreatDoor
namespace Go.Proofs.YtlimaehdmcnjaaaGreatDoor
open Go.RowKit
open Go.Lib (decDigits nDigits)
def tossAt (N D : Nat) (l : List UInt8) (K T u : Nat) : Bool × Nat × Nat := let x := toss N D K T (l.drop u); (x.1, x.2.1, x.2.2 + u)
def coinF (N D : Nat) (l : List UInt8) (p : Nat) : Bool × Nat × Nat := tossAt N D (l.drop p) 0 1 0
def ser (N D : Nat) (l : List UInt8) : Nat → Nat → Nat → List Nat → Nat → Option (List Nat × Nat)
 | 0, _, _, _, _ => none
 | f + 1, m, p, vs, n =>
  if (coinF N D l p).1 = false then none
  else if (coinF N D l p).2.1 = 1 then ser N D l f m (p + (coinF N D l p).2.2) vs (n + 1)
  else if m ≤ 1 then some (vs ++ [n], p + (coinF N D l p).2.2)
  else ser N D l f (m - 1) (p + (coinF N D l p).2.2) (vs ++ [n]) 0
def sr (N D : Nat) (l : List UInt8) (m p : Nat) (vs : List Nat) (n : Nat) : Option (List Nat × Nat) := ser N D l (l.length - p + m) m p vs n
def s1 (N D : Nat) (l : List UInt8) (p n : Nat) : Option (Nat × Nat) := match sr N D l 1 p [] n with | some (x :: _, at') => some (x, at') | _ => none
end Go.Proofs.YtlimaehdmcnjaaaGreatDoor
namespace Go.Proofs.YtlimaehdmcnjaaaGreatDoor
open Go.RowKit
def opn (N D : Nat) : Nat → Nat → Nat
 | 0 => dlt
 | i + 1 => cvo (chi (oneJ N D)) (opn N D i)
def edn (N D i : Nat) : Nat → Nat := cvo (chi (zeroJ N D)) (opn N D i)
def c1 (N D n i s : Nat) (v : Int) : Nat := sumN (fun i' => if (i' : Int) = v then sumN (fun s' => edn N D i' s' * 2 ^ (n - s')) (n + 1) else 0) i + (if (i : Int) = v then sumN (fun s' => edn N D i s' * 2 ^ (n - s')) s else 0)
def p2 (N D n i s k u : Nat) (v : Int) : Nat := if (i : Int) - (k : Int) = v then sumN (fun u' => edn N D i s * edn N D k u' * 2 ^ (n - s - u')) u else 0
def q2 (N D n i s k : Nat) (v : Int) : Nat := sumN (fun k' => p2 N D n i s k' (n - s + 1) v) k
def r2 (N D n i s : Nat) (v : Int) : Nat := sumN (fun s' => q2 N D n i s' (n + 1) v) s
def t2 (N D n i : Nat) (v : Int) : Nat := sumN (fun i' => r2 N D n i' (n + 1) v) i
def c2 (N D n i s k u : Nat) (v : Int) : Nat := t2 N D n i v + r2 N D n i s v + q2 N D n i s k v + p2 N D n i s k u v
open Go.Lib (decDigits nDigits)
def zB (v : Int) : ByteArray := ⟨(Lib.itoa v).toArray⟩
theorem zB_list (v : Int) : (zB v).data.toList = Lib.itoa v := by simp [zB]
theorem zB_nat (n : Nat) : zB (n : Int) = numB n := by
 unfold zB numB
 rw [Lib.itoa_nonneg]
theorem zB_tx (z : Int) : zB z = txQ ((z : Int) : Rat) := by
 have h := flT_list ((z : Int) : Rat)
 have e : flQ ((z : Int) : Rat) = ((z : Int) : Rat) := by unfold flQ; rw [Rat.floor_intCast]
 rw [e, Rat.floor_intCast] at h
 apply ba_ext
 rw [h, zB_list]
 by_cases hz : z < 0
 ·obtain ⟨m, rfl⟩ : ∃ m : Nat, z = -(m : Int) := ⟨z.natAbs, by omega⟩
  rw [if_pos hz, Lib.itoa_neg m (by omega), Int.natAbs_neg, Int.natAbs_natCast]; rfl
 ·obtain ⟨n, rfl⟩ : ∃ n : Nat, z = n := ⟨z.toNat, by omega⟩
  rw [if_neg hz, Lib.itoa_nonneg, List.nil_append, Int.natAbs_natCast]
theorem zB_Tx {z : Int} (h : z.natAbs < 10 ^ 20) : Tx (zB z) ((z : Int) : Rat) := by
 refine ⟨zB_tx z, ?_⟩
 have hd := nDigits_le (n := z.natAbs) (k := 20) (by omega) h
 unfold ovQ
 rw [Rat.num_intCast, Rat.den_intCast]
 have h1 := nDigits_le (n := 1) (k := 1) (by omega) (by omega)
 omega
def rnP (l : List ByteArray) : ByteArray := op2B (· - ·) (sumB l) (floB (sumB l))
def rnV (l : List ByteArray) : List ByteArray := l.set (l.length - 1) (op2B (· - ·) (l.getD (l.length - 1) ⟨#[]⟩) (rnP l))
def rnA (z : List ByteArray) (i : Nat) : List ByteArray := z.set i (op2B (· + ·) (z.getD i ⟨#[]⟩) o1B)
def rnO (z : List ByteArray) (i k : Nat) : List ByteArray := (rnA z i).set k (op2B (· - ·) ((rnA z i).getD k ⟨#[]⟩) o1B)
theorem rs_le {f g : Nat → Rat} : ∀ {l : List Nat}, (∀ j ∈ l, f j ≤ g j) → rs (l.map f) ≤ rs (l.map g)
 | [], _ => Rat.le_refl
 | a :: r, h => by
  have h1 := h a (by simp)
  have h2 := rs_le (l := r) fun j hj => h j (by simp [hj])
  rw [List.map_cons, List.map_cons, rs, rs]; grind
theorem rs_lt {f g : Nat → Rat} {i : Nat} : ∀ {l : List Nat}, (∀ j ∈ l, f j ≤ g j) → i ∈ l → f i < g i → rs (l.map f) < rs (l.map g)
 | a :: r, h, hi, hlt => by
  have h1 := h a (by simp)
  rw [List.map_cons, List.map_cons, rs, rs]
  rcases List.mem_cons.1 hi with rfl | hi
  ·have h2 := rs_le (l := r) fun j hj => h j (by simp [hj])
   grind
  ·have h2 := rs_lt (l := r) (fun j hj => h j (by simp [hj])) hi hlt
   grind
theorem rdO_count {v : List Rat} {m : Nat} (hl : m ≤ v.length) : rs ((List.range v.length).map fun i => if i ∈ rdO v m then (1 : Rat) else 0) = (m : Rat) := by
 rw [rs_count]
 have : (List.range v.length).countP (fun i => decide (i ∈ rdO v m)) = m := by
  have p : ((List.range v.length).filter fun i => decide (i ∈ rdO v m)).Perm (rdO v m) := by
   refine (List.perm_ext_iff_of_nodup (List.nodup_range.filter _) (rdO_nd v m)).2 fun i => ?_
   rw [List.mem_filter, List.mem_range, decide_eq_true_iff]
   exact ⟨fun h => h.2, fun h => ⟨rdO_mem h, h⟩⟩
  rw [List.countP_eq_length_filter, p.length_eq, rdO_len hl]
 rw [this]
theorem rdO_pos {v : List Rat} {m i : Nat} (hm : rs (v.map fpt) = (m : Rat)) (hl : m ≤ v.length) (hi : i ∈ rdO v m) : 0 < fpt (v.getD i 0) := by
 have h0 := fpt_nn (v.getD i 0)
 by_cases hz : fpt (v.getD i 0) = 0
 ·exfalso
  have e : v.map fpt = (List.range v.length).map fun j => fpt (v.getD j 0) := by
   conv => lhs; rw [← map_getD v]
   rw [List.map_map]; rfl
  have hlt : rs ((List.range v.length).map fun j => fpt (v.getD j 0)) < rs ((List.range v.length).map fun i => if i ∈ rdO v m then (1 : Rat) else 0) := by
   refine rs_lt (i := i) (fun j hj => ?_) (List.mem_range.2 (rdO_mem hi)) ?_
   ·by_cases hj2 : j ∈ rdO v m
    ·rw [if_pos hj2]
     exact Rat.le_of_lt (fpt_lt _)
    ·rw [if_neg hj2]
     have := rdO_out hi hj2 (List.mem_range.1 hj)
     rw [hz] at this
     exact this
   ·rw [if_pos hi, hz]; decide
  rw [rdO_count hl, ← e, hm] at hlt
  exact absurd hlt (Rat.lt_irrefl)
 ·grind
theorem rdR_in {v : List Rat} {m i : Nat} (hm : rs (v.map fpt) = (m : Rat)) (hl : m ≤ v.length) : -1 < rdR v m i ∧ rdR v m i < 1 := by
 obtain ⟨h1, h2⟩ := rdR_lt v m i
 refine ⟨?_, h2⟩
 rw [rdR_is]
 have h3 := fpt_nn (v.getD i 0)
 by_cases hi : i ∈ rdO v m
 ·have := rdO_pos hm hl hi
  rw [if_pos hi]; grind
 ·rw [if_neg hi]; grind
theorem ds_set {c p q : Rat} : ∀ {a b : List Rat} {i : Nat}, a[i]? = some p → b[i]? = some q → ds a (b.set i c) = ds a b - (p - q) * (p - q) + (p - c) * (p - c)
 | x :: a, y :: b, 0, h1, h2 => by
  simp at h1 h2
  subst h1 h2
  rw [List.set_cons_zero, ds, ds]; grind
 | x :: a, y :: b, i + 1, h1, h2 => by
  simp at h1 h2
  rw [List.set_cons_succ, ds, ds, ds_set h1 h2]; grind
 | [], _, _, h1, _ => by simp at h1
 | _ :: _, [], _, _, h2 => by simp at h2
theorem rs_set {c q : Rat} : ∀ {b : List Rat} {i : Nat}, b[i]? = some q → rs (b.set i c) = rs b - q + c
 | y :: b, 0, h2 => by
  simp at h2
  subst h2
  rw [List.set_cons_zero, rs, rs]; grind
 | y :: b, i + 1, h2 => by
  simp at h2
  rw [List.set_cons_succ, rs, rs, rs_set h2]; grind
 | [], _, h2 => by simp at h2
theorem near_txt {a : ByteArray} (h : qE a = 0) (hs : a.size ≤ 12) : ((-100000000000 : Int) : Rat) < vQ a ∧ vQ a < ((1000000000000 : Int) : Rat) := by
 obtain ⟨h1, h2, h3, h4, h5, h6⟩ := valid h
 obtain ⟨e1, e2, e3⟩ := vQ_ok h
 have hl := list_size a
 have ht : a.data.toList = (if iM (cW a) = true then [45] else []) ++ (decDigits (bN (iD (cW a))) ++ (if bN (qD a) = 1 then [] else 47 :: decDigits (bN (qD a)))) := by
  conv => lhs; rw [h6]
  exact txB_list _ _ _
 rw [ht] at hl
 simp only [List.length_append, Lib.decDigits_length] at hl
 have hn : (vQ a).num.natAbs < 10 ^ (if iM (cW a) = true then 11 else 12) := by
  rw [e2]
  cases hm : iM (cW a)
  ·rw [hm] at hl
   simp only [if_neg (show ¬ (false = true) by decide), List.length_nil] at hl ⊢
   exact lt_of_digits (by omega)
  ·rw [hm] at hl
   simp only [if_true, List.length_singleton] at hl ⊢
   exact lt_of_digits (by omega)
 have hd := (vQ a).den_pos
 have hq : vQ a = ((vQ a).num : Rat) / (((vQ a).den : Nat) : Rat) := by
  conv => lhs; rw [← Rat.mkRat_self (vQ a)]
  exact Rat.mkRat_eq_div ..
 have hdr : (0 : Rat) < (((vQ a).den : Nat) : Rat) := by
  have := Rat.natCast_lt_natCast.2 hd
  simpa using this
 have hd1 : (1 : Rat) ≤ (((vQ a).den : Nat) : Rat) := by
  have := Rat.natCast_le_natCast.2 (show 1 ≤ (vQ a).den from hd)
  simpa using this
 have hnum : (vQ a).num = vQ a * (((vQ a).den : Nat) : Rat) := by
  have := Rat.ne_of_gt hdr
  grind
 obtain ⟨q, hqq⟩ : ∃ q, vQ a = q := ⟨_, rfl⟩
 rw [hqq] at e1 e2 e3 hn hd hq hdr hd1 hnum ⊢
 have n0 : ((-100000000000 : Int) : Rat) < 0 := by
  have := Rat.intCast_lt_intCast.2 (show (-100000000000 : Int) < 0 by decide)
  simpa using this
 have n1 : (0 : Rat) < ((1000000000000 : Int) : Rat) := by
  have := Rat.intCast_lt_intCast.2 (show (0 : Int) < 1000000000000 by decide)
  simpa using this
 cases hm : iM (cW a)
 ·rw [hm] at hn e1
  simp only [if_neg (show ¬ (false = true) by decide)] at hn
  have h0 : 0 ≤ q.num := by have := of_decide_eq_false e1; omega
  have hlt : ((q.num : Int) : Rat) < ((1000000000000 : Int) : Rat) := Rat.intCast_lt_intCast.2 (by omega)
  have h0r : (0 : Rat) ≤ ((q.num : Int) : Rat) := by
   have := Rat.intCast_le_intCast.2 h0
   simpa using this
  have hq0 : 0 ≤ q := Rat.num_nonneg.1 h0
  refine ⟨by grind, ?_⟩
  have : q ≤ ((q.num : Int) : Rat) := by
   have := Rat.mul_le_mul_of_nonneg_left hd1 hq0
   grind
  grind
 ·rw [hm] at hn e1
  simp only [if_true] at hn
  have h0 : q.num < 0 := of_decide_eq_true e1
  have hlt : ((-100000000000 : Int) : Rat) < ((q.num : Int) : Rat) := Rat.intCast_lt_intCast.2 (by omega)
  have hq0 : q < 0 := Rat.not_le.1 fun h => by have := Rat.num_nonneg.2 h; omega
  have : ((q.num : Int) : Rat) ≤ q := by
   have := Rat.mul_le_mul_of_nonneg_left hd1 (show (0 : Rat) ≤ -q by grind)
   grind
  refine ⟨by grind, by grind⟩
theorem Dn.fpt {D B : Nat} {q : Rat} (h : Dn D B q) : Dn D 1 (Go.Proofs.YtlimaehdmcnjaaaGreatDoor.fpt q) := by
 obtain ⟨z, h1, h2⟩ := h.ex
 have n1 := fpt_nn q
 have n2 := fpt_lt q
 have pD : (0 : Rat) < ((D : Nat) : Rat) := by
  have := Rat.natCast_lt_natCast.2 h.1
  simpa using this
 have e : Go.Proofs.YtlimaehdmcnjaaaGreatDoor.fpt q * ((D : Nat) : Rat) = ((z - q.floor * (D : Int) : Int) : Rat) := by
  rw [Rat.intCast_sub, Rat.intCast_mul, ← h1, Rat.intCast_natCast]
  unfold Go.Proofs.YtlimaehdmcnjaaaGreatDoor.fpt
  grind
 refine ⟨h.1, z - q.floor * (D : Int), e, ?_⟩
 have k1 : 0 ≤ z - q.floor * (D : Int) := by
  have := Rat.mul_nonneg n1 (Rat.le_of_lt pD)
  rw [e] at this
  exact Rat.intCast_nonneg.1 this
 have k2 : z - q.floor * (D : Int) ≤ (D : Int) := by
  have h3 : Go.Proofs.YtlimaehdmcnjaaaGreatDoor.fpt q * ((D : Nat) : Rat) ≤ 1 * ((D : Nat) : Rat) := Rat.mul_le_mul_of_nonneg_right (Rat.le_of_lt n2) (Rat.le_of_lt pD)
  rw [e, Rat.one_mul, ← Rat.intCast_natCast] at h3
  exact Rat.intCast_le_intCast.1 h3
 obtain ⟨x, hx⟩ : ∃ x, z - q.floor * (D : Int) = x := ⟨_, rfl⟩
 rw [hx] at k1 k2 ⊢
 omega
theorem Dn.int {D B : Nat} {z : Int} (hD : 0 < D) (hz : z.natAbs ≤ B) : Dn D B ((z : Int) : Rat) :=
 ⟨hD, z * (D : Int), by rw [Rat.intCast_mul, Rat.intCast_natCast], by rw [Int.natAbs_mul, Int.natAbs_natCast]; exact Nat.mul_le_mul_right _ hz⟩
structure RndOk (l : List ByteArray) (i k : Nat) : Prop where
 e0 : rdE (rnV l) = 0
 len : (rdR' (rnV l)).length = l.length
 near : ∀ (j : Nat) (s : ByteArray) (z : Int), (rnV l)[j]? = some s → (rdR' (rnV l))[j]? = some z → (-1000000000000000 ≤ z ∧ z ≤ 1000000000000000) ∧ cmB (abB (op2B (· - ·) (zB z) s)) o1B < 0
 sum : sumB ((rdR' (rnV l)).map zB) = sumB (rnV l)
 lst : lstB (dstB (rnV l) ((rdR' (rnV l)).map zB)) (dstB (rnV l) (rnO ((rdR' (rnV l)).map zB) i k)) = true
theorem rnd_main {l : List ByteArray} {i k : Nat} (hl : VL 12 l) (hi : i < l.length) (hk : k < l.length) : RndOk l i k := by
 have hp := hl.pos
 have hle := hl.le
 obtain ⟨n, hn⟩ : ∃ n, l.length = n := ⟨_, rfl⟩
 obtain ⟨v, hv⟩ : ∃ v, l.map vQ = v := ⟨_, rfl⟩
 have hvn : v.length = n := by rw [← hv, List.length_map, hn]
 obtain ⟨D0, hD0⟩ : ∃ D, vD l = D := ⟨_, rfl⟩
 have p0 : 0 < D0 := by rw [← hD0]; exact vD_pos l
 obtain ⟨b0, hb0⟩ : ∃ b, b = 144 := ⟨_, rfl⟩
 obtain ⟨a0, ha0⟩ : ∃ b, b = 12 := ⟨_, rfl⟩
 have l0 : D0 ≤ 10 ^ b0 := by
  rw [← hD0]
  exact up_pow (hl.vD_le (by omega)) (by omega)
 have B0 : 10 ^ 12 ≤ 10 ^ a0 := by rw [ha0]; exact Nat.le_refl _
 have xl : TxL D0 (10 ^ a0) l v := by
  rw [← hv]
  exact ((hl.tx (by omega)).dvd p0 (by rw [← hD0]; exact Nat.dvd_refl _)).up B0
 have sx := xl.sum (K := a0 + b0 + 20) p0 (lt_pow (mul_pow (n12 (by omega)) (Nat.le_refl _)) l0 (by omega)) (by omega) (by omega)
 have sd := (rs_dn p0 xl.dn).upB (mul_pow (n12 (by omega)) (Nat.le_refl _))
 obtain ⟨S, hS⟩ : ∃ S, rs v = S := ⟨_, rfl⟩
 rw [hS] at sx sd
 have dS : Dig (2 + a0 + b0 + 1) S := sd.dig (lt_pow (Nat.le_refl _) l0 (by omega))
 have dF := dig_floor dS
 have tF : Tx (floB (sumB l)) (flQ S) := by
  have hf := dF.fits (by omega) (by omega)
  refine ⟨?_, hf⟩
  unfold floB
  rw [wB, if_pos sx.qE, sx.vQ, outB_fits hf]
 have dP : Dn D0 1 (fpt S) := sd.fpt
 have tP : Tx (rnP l) (fpt S) := tx_op (f := (· - ·)) sx tF ((dP.tx (a := 1) (by decide) l0 (by omega)).fit)
 obtain ⟨s, hs⟩ : ∃ s, l[n - 1]? = some s := ⟨_, List.getElem?_eq_getElem (by omega)⟩
 obtain ⟨p, hp'⟩ : ∃ s, v[n - 1]? = some s := ⟨_, List.getElem?_eq_getElem (by omega)⟩
 have ts := xl.tx _ s p hs hp'
 have pn := near_txt (hl.q s (List.mem_of_getElem? hs)) (hl.sz s (List.mem_of_getElem? hs))
 rw [ts.vQ] at pn
 have C1 : 10 ^ a0 + 1 ≤ 10 ^ (a0 + 1) := add_pow (Nat.le_refl _) (Nat.pow_pos (by omega))
 have dp := ((xl.dn p (List.mem_of_getElem? hp')).sub dP).upB C1
 have tp : Tx (op2B (· - ·) s (rnP l)) (p - fpt S) := tx_op (f := (· - ·)) ts tP ((dp.tx (Nat.le_refl _) l0 (by omega)).fit)
 have hV : rnV l = l.set (n - 1) (op2B (· - ·) s (rnP l)) := by
  unfold rnV
  rw [hn, List.getD_eq_getElem?_getD, hs]; rfl
 obtain ⟨V, hVe⟩ : ∃ V, rnV l = V := ⟨_, rfl⟩
 rw [hVe] at hV
 obtain ⟨x, hx⟩ : ∃ x, v.set (n - 1) (p - fpt S) = x := ⟨_, rfl⟩
 have xV : TxL D0 (10 ^ (a0 + 1)) V x := by
  rw [hV, ← hx]
  exact (xl.up (Nat.pow_le_pow_right (by omega) (by omega))).set _ tp dp
 have hxn : x.length = n := by rw [← hx, List.length_set, hvn]
 have hrx : rs x = flQ S := by
  rw [← hx, rs_set hp', hS]
  unfold fpt flQ
  grind
 have hden : (rs x).den = 1 := by rw [hrx]; unfold flQ; exact Rat.den_intCast _
 have big : bigR = ((1000000000000 : Int) : Rat) := rfl
 have big2 : -((1000000000000 : Int) : Rat) < ((-100000000000 : Int) : Rat) - 1 := by
  have h : ((-1000000000000 : Int) : Rat) < ((-100000000001 : Int) : Rat) := Rat.intCast_lt_intCast.2 (by decide)
  have e1 : ((-1000000000000 : Int) : Rat) = -((1000000000000 : Int) : Rat) := by rw [← Rat.intCast_neg]
  have e2 : ((-100000000001 : Int) : Rat) = ((-100000000000 : Int) : Rat) - 1 := by rw [show (-100000000001 : Int) = -100000000000 - 1 by decide, Rat.intCast_sub]; rfl
  rw [e1, e2] at h
  exact h
 have nx : ∀ q ∈ x, ¬ (bigR < q ∨ q < -bigR) := by
  rw [← hx, big]
  intro q hq
  rcases List.mem_or_eq_of_mem_set hq with hq | rfl
  ·rw [← hv] at hq
   obtain ⟨a, ha, rfl⟩ := List.mem_map.1 hq
   have := near_txt (hl.q a ha) (hl.sz a ha)
   grind
  ·have f1 := fpt_nn S
   have f2 := fpt_lt S
   grind
 have hmap : V.map vQ = x := xV.is
 have hVn : V.length = n := by rw [hV, List.length_set, hn]
 have hvec : vecE V = 0 := by
  rw [vecE_is (by omega) (by omega)]
  exact errL_zero.2 xV.qe
 have eE : rdE V = 0 := by
  unfold rdE
  rw [if_pos hvec, hmap, if_pos hden, if_neg]
  intro h
  obtain ⟨q, hq, h⟩ := List.any_eq_true.1 h
  exact nx q hq (of_decide_eq_true h)
 obtain ⟨m1, m2⟩ := rdM_le hden
 obtain ⟨m, hm⟩ : ∃ m, rdM x = m := ⟨_, rfl⟩
 rw [hm] at m1 m2
 have eR : rdR' V = rdL x m := by unfold rdR'; rw [if_pos eE, hmap, hm]
 obtain ⟨Z, hZ⟩ : ∃ Z, rdL x m = Z := ⟨_, rfl⟩
 have hZn : Z.length = n := by rw [← hZ, rdL_len, hxn]
 -- the ints
 have zget : ∀ (j : Nat) (z : Int), Z[j]? = some z → ∃ q, x[j]? = some q ∧ z.natAbs ≤ 10 ^ 13 ∧ -1 < q - ((z : Int) : Rat) ∧ q - ((z : Int) : Rat) < 1 ∧ rdR x m j = q - ((z : Int) : Rat) := by
  intro j z hz
  have hj := (List.getElem?_eq_some_iff.1 hz).1
  obtain ⟨q, hq⟩ : ∃ q, x[j]? = some q := ⟨_, List.getElem?_eq_getElem (by omega)⟩
  have h1 := rdL_get (v := x) (m := m) (i := j) (by omega)
  have hg : x.getD j 0 = q := by simp [List.getD_eq_getElem?_getD, hq]
  rw [hZ, hz, hg] at h1
  have h2 := near_floor (nx q (List.mem_of_getElem? hq))
  have h3 := rdR_in (i := j) m2 m1
  have h4 : rdR x m j = q - ((z : Int) : Rat) := by
   unfold rdR
   rw [hg]
   injection h1 with h1
   rw [h1]
  rw [h4] at h3
  refine ⟨q, hq, ?_, h3.1, h3.2, h4⟩
  injection h1 with h1
  split at h1 <;> omega
 obtain ⟨zr, hzr⟩ : ∃ y, Z.map (fun (z : Int) => ((z : Int) : Rat)) = y := ⟨_, rfl⟩
 have hzrn : zr.length = n := by rw [← hzr, List.length_map, hZn]
 have B14 : 10 ^ 13 ≤ 10 ^ (a0 + 1) := by rw [ha0]; exact Nat.le_refl _
 have tz : ∀ (j : Nat) (z : Int), Z[j]? = some z → Tx (zB z) ((z : Int) : Rat) ∧ Dn D0 (10 ^ (a0 + 1)) ((z : Int) : Rat) := fun j z hz => by
  obtain ⟨q, -, h, -⟩ := zget j z hz
  exact ⟨zB_Tx (Nat.lt_of_le_of_lt h (by decide)), Dn.int p0 (Nat.le_trans h B14)⟩
 have xZ : TxL D0 (10 ^ (a0 + 1)) (Z.map zB) zr := by
  refine ⟨by rw [List.length_map, hZn, hzrn], fun j s q h1 h2 => ?_, fun q hq => ?_⟩
  ·rw [← hzr] at h2
   rw [List.getElem?_map] at h1 h2
   obtain ⟨z, e1, rfl⟩ := Option.map_eq_some_iff.1 h1
   rw [e1] at h2
   simp at h2
   subst h2
   exact (tz j z e1).1
  ·obtain ⟨j, hj⟩ := List.getElem?_of_mem hq
   rw [← hzr, List.getElem?_map] at hj
   obtain ⟨z, e1, rfl⟩ := Option.map_eq_some_iff.1 hj
   exact (tz j z e1).2
 have hrz : rs zr = rs x := by
  rw [← hzr, ← hZ]
  exact rdL_sum m2 m1
 have lB : ∀ {c : Nat}, n * 10 ^ c ≤ 10 ^ (2 + c) := fun {c} => mul_pow (n12 (by omega)) (Nat.le_refl _)
 have s1 := xV.sum (K := a0 + b0 + 30) p0 (lt_pow (mul_pow (n12 (by omega)) (Nat.le_refl _)) l0 (by omega)) (by omega) (by omega)
 have s2 := xZ.sum (K := a0 + b0 + 30) p0 (lt_pow (mul_pow (n12 (by omega)) (Nat.le_refl _)) l0 (by omega)) (by omega) (by omega)
 rw [hrz] at s2
 -- another list
 obtain ⟨zi, hzi⟩ : ∃ z, Z[i]? = some z := ⟨_, List.getElem?_eq_getElem (by omega)⟩
 obtain ⟨qi, hqi, -, -, -, ri⟩ := zget i zi hzi
 have gi : zr[i]? = some ((zi : Int) : Rat) := by rw [← hzr, List.getElem?_map, hzi]; rfl
 have ti : Tx (op2B (· + ·) (zB zi) o1B) (((zi : Int) : Rat) + 1) := tx_op (f := (· + ·)) (tz i zi hzi).1 tx_one ((((tz i zi hzi).2.add (Dn.one p0 (Nat.le_refl 1))).upB (add_pow (Nat.le_refl _) (Nat.pow_pos (by omega))) |>.tx (Nat.le_refl _) l0 (by omega)).fit)
 have di : Dn D0 (10 ^ (a0 + 2)) (((zi : Int) : Rat) + 1) := ((tz i zi hzi).2.add (Dn.one p0 (Nat.le_refl 1))).upB (add_pow (Nat.le_refl _) (Nat.pow_pos (by omega)))
 have eA : rnA (Z.map zB) i = (Z.map zB).set i (op2B (· + ·) (zB zi) o1B) := by
  unfold rnA
  rw [List.getD_eq_getElem?_getD, List.getElem?_map, hzi]; rfl
 have xA : TxL D0 (10 ^ (a0 + 2)) (rnA (Z.map zB) i) (zr.set i (((zi : Int) : Rat) + 1)) := by
  rw [eA]
  exact (xZ.up (Nat.pow_le_pow_right (by omega) (by omega))).set i ti di
 obtain ⟨qk, hqk⟩ : ∃ q, (zr.set i (((zi : Int) : Rat) + 1))[k]? = some q := ⟨_, List.getElem?_eq_getElem (by rw [List.length_set]; omega)⟩
 obtain ⟨sk, hsk⟩ : ∃ q, (rnA (Z.map zB) i)[k]? = some q := ⟨_, List.getElem?_eq_getElem (by rw [xA.len, List.length_set]; omega)⟩
 have tk := xA.tx k sk qk hsk hqk
 have dk := ((xA.dn qk (List.mem_of_getElem? hqk)).sub (Dn.one p0 (Nat.le_refl 1))).upB (C := 10 ^ (a0 + 3)) (add_pow (Nat.le_refl _) (Nat.pow_pos (by omega)))
 have tk2 : Tx (op2B (· - ·) sk o1B) (qk - 1) := tx_op (f := (· - ·)) tk tx_one ((dk.tx (Nat.le_refl _) l0 (by omega)).fit)
 have xO : TxL D0 (10 ^ (a0 + 3)) (rnO (Z.map zB) i k) ((zr.set i (((zi : Int) : Rat) + 1)).set k (qk - 1)) := by
  unfold rnO
  rw [List.getD_eq_getElem?_getD, hsk]
  exact (xA.up (Nat.pow_le_pow_right (by omega) (by omega))).set k tk2 dk
 have hd : ds x zr ≤ ds x ((zr.set i (((zi : Int) : Rat) + 1)).set k (qk - 1)) := by
  obtain ⟨zk, hzk⟩ : ∃ z, Z[k]? = some z := ⟨_, List.getElem?_eq_getElem (by omega)⟩
  obtain ⟨pk, hpk, -, -, -, rk⟩ := zget k zk hzk
  have gk : zr[k]? = some ((zk : Int) : Rat) := by rw [← hzr, List.getElem?_map, hzk]; rfl
  rw [ds_set hpk hqk, ds_set hqi gi]
  by_cases e : i = k
  ·subst e
   rw [List.getElem?_set_self (by omega)] at hqk
   cases hqk
   rw [hqi] at hpk
   cases hpk
   grind
  ·rw [List.getElem?_set_ne e, gk] at hqk
   cases hqk
   have := rdR_two (v := x) (m := m) (i := i) (k := k) (by omega) (by omega)
   rw [ri, rk] at this
   grind
 have mA : ∀ {c : Nat}, a0 + 1 ≤ c → 10 ^ (a0 + 1) + 10 ^ c ≤ 10 ^ (c + 1) := fun {c} h => add_pow (Nat.pow_le_pow_right (by omega) h) (Nat.le_refl _)
 have e1 : ∀ {c : Nat}, a0 + 1 ≤ c → x.length * ((10 ^ (a0 + 1) + 10 ^ c) * (10 ^ (a0 + 1) + 10 ^ c)) ≤ 10 ^ (2 + ((c + 1) + (c + 1))) := fun {c} h => mul_pow (n12 (by omega)) (mul_pow (mA h) (mA h))
 have e2 : D0 * D0 ≤ 10 ^ (b0 + b0) := mul_pow l0 l0
 have d1 := xV.dst xZ (by omega) (by omega) p0 (lt_pow (K := 2 * b0 + 100) (e1 (by omega)) e2 (by omega)) (by omega) (by omega)
 have d2 := xV.dst xO (by rw [List.length_set, List.length_set]; omega) (by omega) p0 (lt_pow (K := 2 * b0 + 100) (e1 (by omega)) e2 (by omega)) (by omega) (by omega)
 rw [← hVe] at *
 rw [← hVe] at eE eR
 refine ⟨eE, by rw [eR, hZ, hZn, hn], fun j s z h1 h2 => ?_, by rw [eR, hZ]; exact s2.inj s1, by rw [eR, hZ, lst_iff d1 d2]; exact decide_eq_true hd⟩
 rw [eR, hZ] at h2
 obtain ⟨q, hq, b1, b2, b3, -⟩ := zget j z h2
 have t1 := xV.tx j s q h1 hq
 obtain ⟨t2, d2'⟩ := tz j z h2
 have dd := (d2'.sub (xV.dn q (List.mem_of_getElem? hq))).upB (add_pow (Nat.le_refl _) (Nat.le_refl _))
 have t3 := tx_op (f := (· - ·)) t2 t1 ((dd.tx (Nat.le_refl _) l0 (by omega)).fit)
 have t4 : Tx (abB (op2B (· - ·) (zB z) s)) (absQ (((z : Int) : Rat) - q)) := by
  have h4 := (dd.abs.tx (Nat.le_refl _) l0 (by omega))
  unfold abB
  rw [if_pos t3.qE, t3.vQ, outB_fits h4.fit]
  exact h4
 refine ⟨by omega, ?_⟩
 unfold cmB
 rw [if_pos ⟨t4.qE, tx_one.qE⟩, t4.vQ, tx_one.vQ, ordQ_lt_iff]
 unfold absQ
 split <;> grind
theorem isQ_absI {W : World} {m : Bool} {x y : Value} {q : Rat} (h : IsQ .i64 W (.agg #[.bool m, x, y]) q) : IsQ .i64 W (.agg #[.bool false, x, y]) (absQ q) := by
 obtain ⟨N, D, e, h1, h2⟩ := h.ex
 injection e with e
 have e2 := congrArg Array.toList e
 injection e2 with e3 e4
 injection e4 with e5 e6
 injection e6 with e7 e8
 subst e5 e7
 obtain ⟨a1, a2, a3⟩ := absQ_parts q
 refine ⟨x, y, ?_, by rw [a2]; exact h1, by rw [a3]; exact h2⟩
 rw [decide_eq_false a1]
theorem r2_Abs (w : World) (s : ByteArray) (hs : s.size ≤ 1000000) :
 Calls Tryz.prog 25 #[.string s] w fun e w' => (∃ E, e = .returned (.tuple #[.string (abB s), .int .i64 E])) ∧ Below w.heap.size w w' := by
 have R1 := fun V => hid (r2_Read V s hs)
 clear hs
 by_cases h0 : qE s = 0
 ·have eB : abB s = outB (absQ (vQ s)) := by rw [abB, if_pos h0]
  rw [eB]
  have ds := dig_of_fits (vQ_fits h0)
  obtain ⟨p1, p2, p3⟩ := absQ_parts (vQ s)
  have dl := ds.limbs (L := 1000000) (by omega) (by omega)
  have HW := fun V v h => hid (r2_Write V v (absQ (vQ s)) h (by rw [p2]; exact dl.1) (by rw [p3]; exact dl.2))
  obtain ⟨oB, hB⟩ : ∃ x, outB (absQ (vQ s)) = x := ⟨_, rfl⟩
  obtain ⟨oE, hE⟩ : ∃ x, outE (absQ (vQ s)) = x := ⟨_, rfl⟩
  rw [hB, hE] at HW
  rw [hB]
  have H0 := hid h0
  clear eB ds dl hB hE h0 p1 p2 p3
  go_enter Tryz.func25, Tryz.ntmps25
  go_wp2_with fail
  refine (R1 _).out.mono ?_; rintro e w1 ⟨⟨v, rfl, hq, -⟩, hb1⟩
  have Q1 := hid (hq H0.out)
  obtain ⟨m, a, n, c, a', n', c', rfl⟩ := (hq H0.out).qv
  rw [H0.out]
  have A1 := hid ((Below.refl w1.heap.size w1).alloc (Nat.le_refl _) (.cells #[.bool false, .slice a n c, .slice a' n' c'] 79))
  have Q2 := hid ((isQ_absI Q1.out).call A1.out)
  have y1 := hid (bnext hb1 A1.out)
  clear hb1 hq Q1
  go_wp2_with fail
  refine (HW _ _ Q2.out).out.mono ?_; rintro e w2 ⟨rfl, hb2⟩
  have y2 := hid (bnext y1.out hb2); clear hb2
  go_wp2_with fail
  go_ret2
  exact ⟨⟨_, rfl⟩, y2.out⟩
 ·rw [abB, if_neg h0]
  obtain ⟨x, hx⟩ : ∃ x, qE s = x := ⟨_, rfl⟩
  have H0 := hid h0; have HX := hid hx
  rw [hx] at h0
  have q0 : (x != 0) = true := by simpa using h0
  clear h0 hx
  go_enter Tryz.func25, Tryz.ntmps25
  go_wp2_with fail
  refine (R1 _).out.mono ?_; rintro e w1 ⟨⟨v, rfl, -, hq⟩, hb1⟩
  rw [hq H0.out, HX.out]
  have y1 := hid hb1
  clear hb1 hq
  go_wp2_with fail
  go_ret2
  exact ⟨⟨_, rfl⟩, y1.out.alloc y1.out.size _⟩
theorem r2_round_down (w : World) (s : ByteArray) (hs : s.size ≤ 1000000) :
 Calls Tryz.prog 55 #[.string s, .bool false] w fun e w' => (∃ E, e = .returned (.tuple #[.string (floB s), .int .i64 E])) ∧ Below w.heap.size w w' := by
 have R1 := fun V => hid (r2_Read V s hs)
 clear hs
 by_cases h0 : qE s = 0
 ·have eB : floB s = outB (flQ (vQ s)) := by rw [floB, wB, if_pos h0]
  rw [eB]
  have hd := dig_of_fits (vQ_fits h0)
  obtain ⟨q, hq⟩ : ∃ q, vQ s = q := ⟨_, rfl⟩
  rw [hq] at hd ⊢
  obtain ⟨K, hK, hd⟩ : ∃ K, K = 4000 ∧ Dig K q := ⟨4000, rfl, hd⟩
  have hdf := (dig_floor hd).lim (L := 1000000) (by omega)
  have F3 := fun V v hv => hid (r2_Write V v (flQ q) hv hdf.1 hdf.2)
  have hq1 := hd.lim (L := 1000000) (by omega)
  have PD := fun V v u h1 h2 => hid (r1_Divide V v u q.num.natAbs q.den h1 h2 q.den_pos hq1.1)
  have PO := fun V => hid (r2_one V)
  have hqq : (limbs (q.num.natAbs / q.den)).length ≤ 1000000 := by
   have h1 : q.num.natAbs / q.den < 10 ^ K := Nat.lt_of_le_of_lt (Nat.div_le_self _ _) hd.n
   have h2 : Dig K (((q.num.natAbs / q.den : Nat) : Rat)) := ⟨by rw [Rat.num_natCast]; exact h1, by rw [Rat.den_natCast]; exact Nat.one_lt_pow (by omega) (by omega)⟩
   have h3 := (h2.lim (L := 1000000) (by omega)).1
   rw [Rat.num_natCast] at h3
   exact h3
  have h1l : (limbs 1).length ≤ 1000000 := (dig_one.lim (L := 1000000) (by omega)).2
  have PA := fun V v u h1 h2 => hid (r1_Plus V v u (q.num.natAbs / q.den) 1 h1 h2 hqq h1l)
  obtain ⟨p1, p2, p3⟩ := flQ_parts q
  have hN : flN q = if q.num < 0 ∧ q.num.natAbs % q.den ≠ 0 then q.num.natAbs / q.den + 1 else q.num.natAbs / q.den := rfl
  have HQ := hid (show ∀ W x y, IsN .i64 W x (flN q) → IsN .i64 W y 1 → IsQ .i64 W (.agg #[.bool (decide (q.num < 0) && !isZ (flN q)), x, y]) (flQ q) from fun W x y hx hy => ⟨x, y, by rw [p1], by rw [p2]; exact hx, by rw [p3]; exact hy⟩)
  obtain ⟨B, hB⟩ : ∃ B, outB (flQ q) = B := ⟨_, rfl⟩
  obtain ⟨E, hE⟩ : ∃ E, outE (flQ q) = E := ⟨_, rfl⟩
  rw [hB, hE] at F3
  rw [hB]
  have H0 := hid h0
  have HVQ := hid hq
  clear hB hE p1 p2 p3 hdf hq1 hqq h1l hd h0 eB hq
  obtain ⟨m, hm⟩ : ∃ m, decide (q.num < 0) = m := ⟨_, rfl⟩
  have hmm : q.num < 0 ↔ m = true := by rw [← hm]; simp
  simp only [hmm] at hN
  have HM := hid hm
  rw [hm] at HQ
  obtain ⟨F, hF⟩ : ∃ F, flN q = F := ⟨_, rfl⟩
  rw [hF] at HQ hN
  obtain ⟨Q, hQ⟩ : ∃ Q, q.num.natAbs / q.den = Q := ⟨_, rfl⟩
  obtain ⟨R, hR⟩ : ∃ R, q.num.natAbs % q.den = R := ⟨_, rfl⟩
  rw [hQ, hR] at PD hN
  rw [hQ] at PA
  have HNN := hid hN
  clear hmm hm hF hQ hR hN
  go_enter Tryz.func55, Tryz.ntmps55
  go_wp2_with fail
  refine (R1 _).out.mono ?_; rintro e w1 ⟨⟨v, rfl, hqv, -⟩, hb1⟩
  have hqv := hqv H0.out
  rw [HVQ.out] at hqv
  obtain ⟨N, D, rfl, hn, hd⟩ := hqv.ex
  have N1 := hid hn; have D1 := hid hd
  obtain ⟨a1, c1, rfl, -⟩ := hn.openI
  obtain ⟨a2, c2, rfl, -⟩ := hd.openI
  obtain ⟨k1, hk1⟩ : ∃ k, (limbs q.num.natAbs).length = k := ⟨_, rfl⟩
  obtain ⟨k2, hk2⟩ : ∃ k, (limbs q.den).length = k := ⟨_, rfl⟩
  rw [HM.out, H0.out, hk1, hk2]
  rw [hk1] at N1
  rw [hk2] at D1
  have A1 := hid ((Below.refl w1.heap.size w1).alloc (Nat.le_refl _) (.cells #[.bool m, .slice a1 k1 c1, .slice a2 k2 c2] 79))
  have X1 := hid (Blk.new w1 #[.bool m, .slice a1 k1 c1, .slice a2 k2 c2] 79)
  have y1 := hid (bnext hb1 A1.out)
  clear hb1 hqv hn hd hk1 hk2
  go_wp2_with fail
  refine (PD _ _ _ (N1.out.call A1.out) (D1.out.call A1.out)).out.mono ?_; rintro e w2 ⟨⟨v1, v2, rfl, hv1, hv2⟩, hb2⟩
  have V1 := hid hv1
  obtain ⟨a3, c3, rfl, _⟩ := hv1.openI
  obtain ⟨a4, c4, rfl, _⟩ := hv2.openI
  have x2 := hid (X1.out.call hb2); have y2 := hid (bnext y1.out hb2)
  obtain ⟨k3, hk3⟩ : ∃ k, (limbs Q).length = k := ⟨_, rfl⟩
  obtain ⟨k4, hk4⟩ : ∃ k, (limbs R).length = k := ⟨_, rfl⟩
  have hz3 : isZ Q = !decide (0 < k3) := by
   have h1 : k3 = 0 ↔ Q = 0 := by rw [← hk3, List.length_eq_zero_iff, limbs_nil]
   rw [Bool.eq_iff_iff, isZ_iff0]
   simp only [Bool.not_eq_true', decide_eq_false_iff_not]
   omega
  have hz4 : R = 0 ↔ k4 = 0 := by rw [← hk4, List.length_eq_zero_iff, limbs_nil]
  rw [hk3] at V1 ⊢
  rw [hk4]
  have HZ3 := hid hz3; have HZ4 := hid hz4
  clear hb2 hv1 hv2 hk3 hk4 hz3 hz4
  have r0 := x2.out.cell 0
  simp at r0
  have FIN : Hid (∀ (W : World) (x : Value) (k : Nat) (a : Option Addr) (c : Nat), x = .slice a k c → IsN .i64 W x F → isZ F = !decide (0 < k) → ∀ u, IsN .i64 W u 1 → IsQ .i64 W (.agg #[.bool (m && decide (0 < k)), .slice a k c, u]) (flQ q)) := by
   rintro W x k a c rfl hx hz u hu
   have := HQ.out W _ u hx hu
   rw [hz, Bool.not_not] at this
   exact this
  by_cases hR0 : k4 = 0
  ·subst hR0
   have hF : F = Q := by rw [HNN.out, if_neg (by rintro ⟨-, h⟩; exact h (HZ4.out.2 rfl))]
   clear HNN HZ4
   subst hF
   cases m
   ·go_wp2_with fail
    refine (PO _).out.mono ?_; rintro e w7 ⟨⟨u7, rfl, hu7⟩, hb7⟩
    have y7 := hid (bnext y2.out hb7)
    have Q7 := hid (FIN.out w7 _ k3 a3 c3 rfl (V1.out.call hb7) HZ3.out _ hu7)
    obtain ⟨a7, c7, rfl, _⟩ := hu7.openI
    rw [Bool.false_and] at Q7
    clear hb7 hu7
    go_wp2_with fail
    refine (F3 _ _ Q7.out).out.mono ?_; rintro e w8 ⟨rfl, hb8⟩
    have y8 := hid (bnext y7.out hb8)
    clear hb8
    go_wp2_with fail
    go_ret2
    exact ⟨⟨_, rfl⟩, y8.out⟩
   ·obtain ⟨P, hP⟩ : ∃ P, decide (0 < k3) = P := ⟨_, rfl⟩
    have q3 : decide ((0 : Int) < (k3 : Int)) = P := by rw [← hP, Bool.eq_iff_iff, decide_eq_true_iff, decide_eq_true_iff]; omega
    have HP := hid hP
    go_wp2_with fail
    refine (PO _).out.mono ?_; rintro e w7 ⟨⟨u7, rfl, hu7⟩, hb7⟩
    have y7 := hid (bnext y2.out hb7)
    have Q7 := hid (FIN.out w7 _ k3 a3 c3 rfl (V1.out.call hb7) HZ3.out _ hu7)
    obtain ⟨a7, c7, rfl, _⟩ := hu7.openI
    rw [Bool.true_and, HP.out] at Q7
    clear hb7 hu7
    go_wp2_with fail
    refine (F3 _ _ Q7.out).out.mono ?_; rintro e w8 ⟨rfl, hb8⟩
    have y8 := hid (bnext y7.out hb8)
    clear hb8
    go_wp2_with fail
    go_ret2
    exact ⟨⟨_, rfl⟩, y8.out⟩
  ·have q4 : decide ((0 : Int) < (k4 : Int)) = true := decide_eq_true (by omega)
   cases m
   ·have hF : F = Q := by rw [HNN.out, if_neg (by rintro ⟨h, -⟩; cases h)]
    clear HNN HZ4
    subst hF
    go_wp2_with fail
    refine (PO _).out.mono ?_; rintro e w7 ⟨⟨u7, rfl, hu7⟩, hb7⟩
    have y7 := hid (bnext y2.out hb7)
    have Q7 := hid (FIN.out w7 _ k3 a3 c3 rfl (V1.out.call hb7) HZ3.out _ hu7)
    obtain ⟨a7, c7, rfl, _⟩ := hu7.openI
    rw [Bool.false_and] at Q7
    clear hb7 hu7
    go_wp2_with fail
    refine (F3 _ _ Q7.out).out.mono ?_; rintro e w8 ⟨rfl, hb8⟩
    have y8 := hid (bnext y7.out hb8)
    clear hb8
    go_wp2_with fail
    go_ret2
    exact ⟨⟨_, rfl⟩, y8.out⟩
   ·have hF : F = Q + 1 := by rw [HNN.out, if_pos ⟨rfl, fun h => hR0 (HZ4.out.1 h)⟩]
    clear HNN HZ4
    subst hF
    go_wp2_with fail
    refine (PO _).out.mono ?_; rintro e w3 ⟨⟨u3, rfl, hu3⟩, hb3⟩
    have y3 := hid (bnext y2.out hb3); have V3 := hid (V1.out.call hb3); have U3 := hid hu3
    have x3 := hid (x2.out.call hb3)
    obtain ⟨a5, c5, rfl, _⟩ := hu3.openI
    clear hb3 hu3 r0
    go_wp2_with fail
    refine (PA _ _ _ V3.out U3.out).out.mono ?_; rintro e w4 ⟨⟨u4, rfl, hu4⟩, hb4⟩
    have y4 := hid (bnext y3.out hb4); have V4 := hid hu4
    have x4 := hid (x3.out.call hb4)
    obtain ⟨a6, c6, rfl, _⟩ := hu4.openI
    obtain ⟨k6, hk6⟩ : ∃ k, (limbs (Q + 1)).length = k := ⟨_, rfl⟩
    have hk60 : 0 < k6 := by
     rcases Nat.eq_zero_or_pos k6 with e | e
     ·rw [e] at hk6
      have := limbs_none.1 hk6
      omega
     ·exact e
    rw [hk6] at V4 ⊢
    have q6 : decide ((0 : Int) < (k6 : Int)) = true := decide_eq_true (by omega)
    have HK6 := hid hk60
    clear hb4 hu4 hk6 hk60
    have q0 := x4.out.cell 0
    simp at q0
    go_wp2_with fail
    refine (PO _).out.mono ?_; rintro e w7 ⟨⟨u7, rfl, hu7⟩, hb7⟩
    have y7 := hid (bnext y4.out hb7)
    have hz6 : isZ (Q + 1) = !decide (0 < k6) := by rw [decide_eq_true HK6.out]; unfold isZ; simp
    have Q7 := hid (FIN.out w7 _ k6 a6 c6 rfl (V4.out.call hb7) hz6 _ hu7)
    obtain ⟨a7, c7, rfl, _⟩ := hu7.openI
    rw [Bool.true_and] at Q7
    clear hb7 hu7
    go_wp2_with fail
    refine (F3 _ _ Q7.out).out.mono ?_; rintro e w8 ⟨rfl, hb8⟩
    have y8 := hid (bnext y7.out hb8)
    clear hb8
    go_wp2_with fail
    go_ret2
    exact ⟨⟨_, rfl⟩, y8.out⟩
 ·rw [floB, wB, if_neg h0]
  obtain ⟨x, hx⟩ : ∃ x, qE s = x := ⟨_, rfl⟩
  have H0 := hid h0; have HX := hid hx
  rw [hx] at h0
  have q0 : (x != 0) = true := by simpa using h0
  clear h0 hx
  go_enter Tryz.func55, Tryz.ntmps55
  go_wp2_with fail
  refine (R1 _).out.mono ?_; rintro e w1 ⟨⟨v, rfl, -, hq⟩, hb1⟩
  rw [hq H0.out, HX.out]
  have y1 := hid hb1
  clear hb1 hq
  go_wp2_with fail
  go_ret2
  exact ⟨⟨_, rfl⟩, y1.out.alloc y1.out.size _⟩
theorem r2_Floor (w : World) (s : ByteArray) (hs : s.size ≤ 1000000) :
 Calls Tryz.prog 21 #[.string s] w fun e w' => (∃ E, e = .returned (.tuple #[.string (floB s), .int .i64 E])) ∧ Below w.heap.size w w' := by
 have R1 := fun V => hid (r2_round_down V s hs)
 obtain ⟨B, hB⟩ : ∃ B, floB s = B := ⟨_, rfl⟩
 rw [hB] at R1 ⊢
 clear hs hB
 go_enter Tryz.func21, Tryz.ntmps21
 go_wp2_with fail
 refine (R1 _).out.mono ?_; rintro e w1 ⟨⟨E, rfl⟩, hb1⟩
 have y1 := hid hb1; clear hb1
 go_wp2_with fail
 go_ret2
 exact ⟨⟨_, rfl⟩, y1.out⟩
end Go.Proofs.YtlimaehdmcnjaaaGreatDoor
namespace Go.Proofs.YtlimaehdmcnjaaaGreatDoor
open Go.RowKit
theorem r2_small (w : World) (n : Nat) (h : n ≤ 9223372036854775807) : Calls Tryz.prog 74 #[.int .i64 n] w fun e w' => e = .returned (numV n) ∧ w = w' := by
 go_enter Tryz.func74, Tryz.ntmps74
 go_wp2_with fail
 refine (r1_FromInt _ n h).mono ?_; rintro e w1 ⟨rfl, rfl⟩
 go_wp2_with fail
 go_ret
 exact ⟨rfl, rfl⟩
open Go.Lib (decDigits nDigits)
theorem zB_neg (m : Nat) : (⟨#[45]⟩ : ByteArray) ++ numB (m + 1) = zB (-((m : Int) + 1)) := by
 apply ba_ext
 rw [ByteArray.data_append, Array.toList_append, numB_list, zB_list, show -((m : Int) + 1) = -((m + 1 : Nat) : Int) by omega, Lib.itoa_neg _ (by omega)]
 rfl
theorem ndig_i64 {n : Nat} (h : n ≤ 9223372036854775807) : nDigits n ≤ 9000 := Nat.le_trans (nDigits_le (k := 19) (by omega) (by omega)) (by omega)
theorem lim_i64 {n : Nat} (h : n ≤ 9223372036854775807) : (limbs n).length ≤ 1000000 := Nat.le_trans (limbs_digits (K := 3) (Nat.le_trans (nDigits_le (k := 19) (by omega) (by omega)) (by omega))) (by omega)
open Go.Shelf
theorem r2_IntNegW (w : World) (m : Nat) (h : m ≤ 1000000000000000000) : Calls Tryz.prog 24 #[.int .i64 (-((m : Int) + 1))] w fun e w' => e = .returned (.string (zB (-((m : Int) + 1)))) ∧ Below w.heap.size w w' := by
 have q0 : decide ((0 : Int) ≤ -((m : Int) + 1)) = false := by simp <;> omega
 have q1 : IntKind.i64.wrap (-((m : Int) + 1) + 1) = -(m : Int) := by rw [IntWalk.i64_in _ ⟨by omega, by omega⟩]; omega
 have q2 : IntKind.i64.wrap (-(-(m : Int))) = (m : Int) := by rw [IntWalk.i64_in _ ⟨by omega, by omega⟩]; omega
 have q3 : IntKind.i64.wrap (-(-((m : Int) + 1) + 1)) = (m : Int) := by rw [IntWalk.i64_in _ ⟨by omega, by omega⟩]; omega
 have q4 : IntKind.i64.wrap (m : Int) = (m : Int) := by rw [IntWalk.i64_in _ ⟨by omega, by omega⟩]
 have hz := zB_neg m
 obtain ⟨Z, hZ⟩ : ∃ Z, zB (-((m : Int) + 1)) = Z := ⟨_, rfl⟩
 rw [hZ] at hz ⊢
 have HS := fun V => hid (r2_small V m (by omega))
 have HR := fun V => hid (r1_Read_num V m (ndig_i64 (by omega)))
 have HO := fun V => hid (r2_one V)
 have HP := fun V v u hv hu => hid (r1_Plus V v u m 1 hv hu (lim_i64 (by omega)) (lim_i64 (by omega)))
 have HW := fun V v hv => hid (r1_Write V v (m + 1) hv (lim_i64 (by omega)))
 obtain ⟨M, hM⟩ : ∃ M, numB m = M := ⟨_, rfl⟩
 have hsz := numB_size (m + 1)
 have hnd := ndig_i64 (n := m + 1) (by omega)
 obtain ⟨M1, hM1⟩ : ∃ M, numB (m + 1) = M := ⟨_, rfl⟩
 rw [hM1] at hsz
 have hcat : ¬ 9223372036854775807 < 1 + M1.size := by omega
 simp only [numV_eq] at HS HW
 rw [hM] at HS HR
 rw [hM1] at HW hz
 clear hM hM1 hZ h hsz hnd
 go_enter Tryz.func24, Tryz.ntmps24
 go_wp2_with fail
 refine (HS _).out.mono ?_; rintro e w1 ⟨rfl, rfl⟩
 go_wp2_with fail
 refine (HR _).out.mono ?_; rintro e w2 ⟨⟨v2, rfl, h2⟩, hb2⟩
 have B2 := hid hb2; have V2 := hid h2; clear hb2 h2
 go_wp2_with fail
 refine (HO _).out.mono ?_; rintro e w3 ⟨⟨v3, rfl, h3⟩, hb3⟩
 have B3 := hid (bnext B2.out hb3); have V3 := hid (V2.out.call hb3); have U3 := hid h3; clear hb3 h3
 go_wp2_with fail
 refine (HP _ _ _ V3.out U3.out).out.mono ?_; rintro e w4 ⟨⟨v4, rfl, h4⟩, hb4⟩
 have B4 := hid (bnext B3.out hb4); have V4 := hid h4; clear hb4 h4
 go_wp2_with fail
 refine (HW _ _ V4.out).out.mono ?_; rintro e w5 ⟨rfl, hb5⟩
 have B5 := hid (bnext B4.out hb5); clear hb5
 go_wp2_with fail
 go_ret
 exact ⟨rfl, B5.out⟩
theorem r2_IntW (w : World) (k : Int) (h1 : -1000000000000000000 ≤ k) (h2 : k ≤ 1000000000000000000) : Calls Tryz.prog 24 #[.int .i64 k] w fun e w' => e = .returned (.string (zB k)) ∧ Below w.heap.size w w' := by
 by_cases hk : 0 ≤ k
 ·obtain ⟨n, rfl⟩ : ∃ n : Nat, k = (n : Nat) := ⟨k.toNat, by omega⟩
  refine (r2_Int w n (by omega)).mono ?_
  rintro e w' ⟨rfl, rfl⟩
  exact ⟨by rw [zB_nat], Below.refl _ _⟩
 ·obtain ⟨m, rfl⟩ : ∃ m : Nat, k = -((m : Int) + 1) := ⟨(-k - 1).toNat, by omega⟩
  exact r2_IntNegW w m (by omega)
theorem k_PickU (x : Int) (n : Nat) (h0 : 0 < n) (hn : n ≤ 1000000) (h1 : -9223372036854775808 ≤ x) (h2 : x ≤ 9223372036854775807) :
 ∃ i : Nat, i < n ∧ ∀ w, Calls Tryz.prog 14 #[.int .i64 x, .int .i64 (n : Nat)] w fun e w' => e = .returned (.int .i64 (i : Nat)) ∧ w = w' := by
 have r1 := Int.tmod_lt_of_pos x (show (0 : Int) < n by omega)
 have r2 := Int.lt_tmod_of_pos x (show (0 : Int) < n by omega)
 obtain ⟨r, hr⟩ : ∃ r, x.tmod (n : Int) = r := ⟨_, rfl⟩
 rw [hr] at r1 r2
 have e0 : IntKind.i64.wrap r = r := by rw [IntWalk.i64_in _ ⟨by omega, by omega⟩]
 have hz : ((n : Int) == 0) = false := by rw [beq_eq_false_iff_ne]; omega
 by_cases hneg : r < 0
 ·have q0 : decide (r < 0) = true := by simp; omega
  obtain ⟨i, hi⟩ : ∃ i : Nat, r + (n : Int) = i := ⟨(r + n).toNat, by omega⟩
  have e1 : IntKind.i64.wrap (r + (n : Int)) = r + (n : Int) := by rw [IntWalk.i64_in _ ⟨by omega, by omega⟩]
  refine ⟨i, by omega, fun w => ?_⟩
  rw [← hi]
  clear hi hneg
  go_enter Tryz.func14, Tryz.ntmps14
  go_wp2_with fail
  go_ret
  exact ⟨rfl, rfl⟩
 ·have q0 : decide (r < 0) = false := by simp; omega
  obtain ⟨i, hi⟩ : ∃ i : Nat, r = i := ⟨r.toNat, by omega⟩
  refine ⟨i, by omega, fun w => ?_⟩
  rw [← hi]
  clear hi hneg
  go_enter Tryz.func14, Tryz.ntmps14
  go_wp2_with fail
  go_ret
  exact ⟨rfl, rfl⟩
theorem zB_small {z : Int} (h : -1000000000000000 ≤ z ∧ z ≤ 1000000000000000) : (zB z).size ≤ 10000 := by
 have := zB_Tx (z := z) (Nat.lt_of_le_of_lt (show z.natAbs ≤ 10 ^ 15 by omega) (by decide))
 rw [this.eq]
 exact tx_size this.fit
theorem floB_size (s : ByteArray) : (floB s).size ≤ 10000 := by
 unfold floB wB
 split
 ·unfold outB
  split
  ·exact Nat.zero_le _
  ·rename_i h
   exact tx_size h
 ·exact Nat.zero_le _
theorem abB_sizeR (s : ByteArray) : (abB s).size ≤ 10000 := by
 unfold abB
 split
 ·unfold outB
  split
  ·exact Nat.zero_le _
  ·rename_i h
   exact tx_size h
 ·exact Nat.zero_le _
theorem own_shape {W : World} {base : Nat} {e : TypeId} {u : Value} {n : Nat} {xs : List Value} (h : W.ownsRow base e 1 u n xs) (hn : 0 < n) : ∃ g c, u = .slice (some ⟨g, 0, none⟩) n c := by
 obtain ⟨m, rfl⟩ : ∃ m, n = m + 1 := ⟨n - 1, by omega⟩
 exact ownsRow_succ h
theorem rnd_walk (w : World) (v : Value) (l : List ByteArray) (p q : Int) (hv : Row w v (strs l)) (hL : Lay w) (V1 : VL 12 l) (hv1 : validB l = true) (hp1 : -9223372036854775808 ≤ p) (hp2 : p ≤ 9223372036854775807) (hq1 : -9223372036854775808 ≤ q) (hq2 : q ≤ 9223372036854775807) :
 Calls Tryz.prog 5 #[v, .int .i64 p, .int .i64 q] w fun e w' => e = .returned (.bool true) ∧ Below w.heap.size w w' := by
 obtain ⟨i0, hi0, hz0, hz1, hz2⟩ := info_parts info_numO
 have hp := V1.pos
 have hn12 := V1.le
 obtain ⟨i, hi, PP⟩ := k_PickU p l.length hp (by omega) hp1 hp2
 obtain ⟨k, hk, PQ⟩ := k_PickU q l.length hp (by omega) hq1 hq2
 have HT := rnd_main V1 hi hk
 have PL := hid (w_lives29 w hL)
 have HL := hid hL
 have z1 : ∀ s ∈ l, s.size ≤ 1000000 := fun s hs => by have := V1.sz s hs; omega
 have HSZ := hid (show ∀ s ∈ l, s.size ≤ 12 from V1.sz)
 have PV1 := fun V x hx => hid (w_valid V x l hx (fun s hs => by have := z1 s hs; omega))
 rw [hv1] at PV1
 have PO := fun V x hx => hid (k_OwnSO V x l hx (by omega))
 have PS := fun V x hx => hid (w_sum V x l hx z1)
 have zs1 := sumB_size l
 have PF := fun V => hid (r2_Floor V (sumB l) (by omega))
 have zf := floB_size (sumB l)
 have PD := fun V => hid (r2_Sub V (sumB l) (floB (sumB l)) (by omega) (by omega))
 have zp : (rnP l).size ≤ 10000 := o2_size _ _ _
 have eP : rnP l = op2B (· - ·) (sumB l) (floB (sumB l)) := rfl
 obtain ⟨e0, hlen, hnear, hsum, hlst⟩ := HT
 obtain ⟨n, hn⟩ : ∃ n, l.length = n := ⟨_, rfl⟩
 obtain ⟨m, hm⟩ : ∃ m, n = m + 1 := ⟨n - 1, by omega⟩
 obtain ⟨sl, hsl⟩ : ∃ x, l[m]? = some x := ⟨_, List.getElem?_eq_getElem (by omega)⟩
 have PE := fun V => hid (r2_Sub V sl (rnP l) (z1 sl (List.mem_of_getElem? hsl)) (by omega))
 have zr := o2_size (· - ·) sl (rnP l)
 have eV : rnV l = l.set m (op2B (· - ·) sl (rnP l)) := by
  unfold rnV
  rw [hn, show n - 1 = m by omega, List.getD_eq_getElem?_getD, hsl]; rfl
 have zV : ∀ s ∈ rnV l, s.size ≤ 1000000 := by
  rw [eV]
  intro s hs
  rcases List.mem_or_eq_of_mem_set hs with hs | rfl
  ·exact z1 s hs
  ·omega
 have hVn : (rnV l).length = n := by rw [eV, List.length_set, hn]
 have PR := fun V x hx hV => hid (s_Round V x (rnV l) hx zV (by omega) hV)
 have PSV := fun V x hx => hid (w_sum V x (rnV l) hx zV)
 obtain ⟨re, hre⟩ : ∃ r, op2E (· - ·) sl (rnP l) = r := ⟨_, rfl⟩
 obtain ⟨rr, hrr⟩ : ∃ r, op2B (· - ·) sl (rnP l) = r := ⟨_, rfl⟩
 rw [hrr] at PE eV zr
 rw [hre] at PE
 obtain ⟨pe, hpe⟩ : ∃ r, op2E (· - ·) (sumB l) (floB (sumB l)) = r := ⟨_, rfl⟩
 rw [← eP, hpe] at PD
 obtain ⟨P, hP⟩ : ∃ r, rnP l = r := ⟨_, rfl⟩
 rw [hP] at PD PE zp
 obtain ⟨F, hF⟩ : ∃ r, floB (sumB l) = r := ⟨_, rfl⟩
 rw [hF] at PF PD
 obtain ⟨S, hS⟩ : ∃ r, sumB l = r := ⟨_, rfl⟩
 rw [hS] at PS PF PD
 obtain ⟨V, hVe⟩ : ∃ V, rnV l = V := ⟨_, rfl⟩
 rw [hVe] at e0 hlen hnear hsum hlst zV hVn PR PSV eV
 rw [e0] at PR
 obtain ⟨Z, hZ⟩ : ∃ Z, rdR' V = Z := ⟨_, rfl⟩
 rw [hZ] at hlen hnear hsum hlst PR
 rw [hn] at hlen hi hk PP PQ
 have zZ : ∀ s ∈ Z.map zB, s.size ≤ 10000 := by
  intro s hs
  obtain ⟨z, hz, rfl⟩ := List.mem_map.1 hs
  obtain ⟨j, hj⟩ := List.getElem?_of_mem hz
  obtain ⟨x, hx⟩ : ∃ x, V[j]? = some x := ⟨_, List.getElem?_eq_getElem (by have := (List.getElem?_eq_some_iff.1 hj).1; omega)⟩
  exact zB_small (hnear j x z hx hj).1
 have hZn : (Z.map zB).length = n := by rw [List.length_map, hlen]
 have HNEAR := hid hnear
 obtain ⟨U, hU⟩ : ∃ U, Z.map zB = U := ⟨_, rfl⟩
 have HUZ := hid hU
 rw [hU] at hsum hlst zZ hZn
 have PSU := fun W x hx => hid (w_sum W x U hx (fun s hs => by have := zZ s hs; omega))
 rw [hsum] at PSU
 obtain ⟨SV, hSV⟩ : ∃ s, sumB V = s := ⟨_, rfl⟩
 rw [hSV] at PSU PSV
 have PO2 := fun W x hx => hid (k_OwnSO W x U hx (by omega))
 obtain ⟨ui, hui⟩ : ∃ x, U[i]? = some x := ⟨_, List.getElem?_eq_getElem (by omega)⟩
 have PAi := fun W => hid (r2_Add W ui o1B (by have := zZ ui (List.mem_of_getElem? hui); omega) (by show (1 : Nat) ≤ 1000000; omega))
 have eA : rnA U i = U.set i (op2B (· + ·) ui o1B) := by unfold rnA; rw [List.getD_eq_getElem?_getD, hui]; rfl
 have zA : ∀ s ∈ rnA U i, s.size ≤ 10000 := by
  rw [eA]
  intro s hs
  rcases List.mem_or_eq_of_mem_set hs with hs | rfl
  ·exact zZ s hs
  ·exact o2_size _ _ _
 have hAn : (rnA U i).length = n := by rw [eA, List.length_set, hZn]
 obtain ⟨uk, huk⟩ : ∃ x, (rnA U i)[k]? = some x := ⟨_, List.getElem?_eq_getElem (by omega)⟩
 have PAk := fun W => hid (r2_Sub W uk o1B (by have := zA uk (List.mem_of_getElem? huk); omega) (by show (1 : Nat) ≤ 1000000; omega))
 have eO : rnO U i k = (rnA U i).set k (op2B (· - ·) uk o1B) := by unfold rnO; rw [List.getD_eq_getElem?_getD, huk]; rfl
 have zO : ∀ s ∈ rnO U i k, s.size ≤ 10000 := by
  rw [eO]
  intro s hs
  rcases List.mem_or_eq_of_mem_set hs with hs | rfl
  ·exact zA s hs
  ·exact o2_size _ _ _
 have hOn : (rnO U i k).length = n := by rw [eO, List.length_set, hAn]
 have PD1 := fun W x y hx hy => hid (w_distance W x y V U hx hy (by omega) zV (fun s hs => by have := zZ s hs; omega))
 have PD2 := fun W x y hx hy => hid (w_distance W x y V (rnO U i k) hx hy (by omega) zV (fun s hs => by have := zO s hs; omega))
 have PLs := fun W => hid (w_least W (dstB V U) (dstB V (rnO U i k)) (by have := dstB_size V U; omega) (by have := dstB_size V (rnO U i k); omega))
 rw [hlst] at PLs
 obtain ⟨A, hA⟩ : ∃ A, rnA U i = A := ⟨_, rfl⟩
 obtain ⟨O, hO⟩ : ∃ O, rnO U i k = O := ⟨_, rfl⟩
 rw [hA] at eA huk eO
 rw [hO] at eO PD2 PLs
 obtain ⟨d1, hd1⟩ : ∃ d, dstB V U = d := ⟨_, rfl⟩
 obtain ⟨d2, hd2⟩ : ∃ d, dstB V O = d := ⟨_, rfl⟩
 rw [hd1] at PD1 PLs
 rw [hd2] at PD2 PLs
 obtain ⟨Ai, hAi⟩ : ∃ x, op2B (· + ·) ui o1B = x := ⟨_, rfl⟩
 obtain ⟨Aie, hAie⟩ : ∃ x, op2E (· + ·) ui o1B = x := ⟨_, rfl⟩
 rw [hAi] at PAi eA
 rw [hAie] at PAi
 obtain ⟨Ak, hAk⟩ : ∃ x, op2B (· - ·) uk o1B = x := ⟨_, rfl⟩
 obtain ⟨Ake, hAke⟩ : ∃ x, op2E (· - ·) uk o1B = x := ⟨_, rfl⟩
 rw [hAk] at PAk eO
 rw [hAke] at PAk
 have HV := hid hv
 obtain ⟨a1, c1, rfl, q1, q2, q3⟩ := hv.openS
 rw [hn] at q1 HV ⊢
 have HQ3 := hid q3; have HN := hid hn
 have HVN := hid hVn; have HZN := hid hlen; have HUN := hid hZn
 have HI := hid hi; have HK := hid hk; have HN12 := hid (show n ≤ 12 by omega)
 have HPP := hid PP; have HPQ := hid PQ; have HM := hid hm
 have HSL := hid hsl; have HUI := hid hui; have HUK := hid huk
 have EV := hid eV; have EA := hid eA; have EO := hid eO
 have ZV := hid zV
 have PAb := fun W s h => hid (r2_Abs W s h)
 have PCm := fun W s h => hid (r2_Cmp W s o1B h (by show (1 : Nat) ≤ 1000000; omega))
 have PSb := fun W s t h1 h2 => hid (r2_Sub W s t h1 h2)
 have wl : IntKind.i64.wrap ((n : Int) - 1) = (m : Int) := by rw [IntWalk.i64_in _ ⟨by omega, by omega⟩]; omega
 have m0 : (0 : Int) ≤ (m : Int) := by omega
 have m1 : (m : Int) < (n : Int) := by omega
 have HNP := hid (show 0 < n by omega)
 clear hv1 hv hL V1 z1 zs1 zf zp eP zr zV hre hrr hpe hP hF hS hVe hZ hU hSV hnear hlen hVn hZn zZ zA zO hAn hOn hA hO hd1 hd2 hAi hAie hAk hAke q3 hn hm hsl hui huk eV eA eO hi hk hp hn12 PP PQ hp1 hp2 hq1 hq2 e0 hsum hlst
 go_enter Tryz.func5, Tryz.ntmps5
 go_wp2_with fail
 refine PL.out.mono ?_; rintro e w1 ⟨rfl, hb1⟩
 have y1 := hid hb1; clear hb1 PL
 go_wp2_with fail
 refine (PV1 _ _ (HV.out.call y1.out)).out.mono ?_; rintro e w2 ⟨rfl, hb2⟩
 have y2 := hid (bnext y1.out hb2); clear hb2
 go_wp2_with fail
 go_loopw [7] (fun s7 wr => ∃ j : Nat, s7 = .int .i64 (j : Nat) ∧ j ≤ n ∧ Hid (Below w2.heap.size w2 wr)) (fun s7 wr => n - (intOf s7).toNat)
 case atStart => exact ⟨0, rfl, Nat.zero_le _, Below.refl _ _⟩
 case round =>
  obtain ⟨j, rfl, hj, hB⟩ := hrel
  by_cases hlt : j < n
  ·obtain ⟨x, hx⟩ : ∃ x, l[j]? = some x := ⟨_, List.getElem?_eq_getElem (by rw [HN.out]; exact hlt)⟩
   obtain ⟨gx, ox, rfl, hgx, kx⟩ := HQ3.out j x hx
   have hs := HSZ.out x (List.mem_of_getElem? hx)
   have k1 := ((bnext y2.out hB.out).cell (p := ⟨gx, ox + j, none⟩) hgx).trans kx
   have q1 : decide ((12 : Int) < (x.size : Int)) = false := decide_eq_false (by omega)
   have f1 : (0 : Int) ≤ (j : Int) := by omega
   have f2 : (j : Int) < (n : Int) := by omega
   have wi : IntKind.i64.wrap ((j : Int) + 1) = ((j + 1 : Nat) : Int) := by have := HN12.out; rw [IntWalk.i64_in _ ⟨by omega, by omega⟩]; omega
   have HLT := hid hlt
   clear hx hgx kx hlt hs
   go_wp2_with fail
   go_roundw
   case rel => exact ⟨j + 1, by go_num, by have := HLT.out; omega, hB.out⟩
   case measure => simp [intOf] <;> (have := HLT.out; omega)
  ·obtain rfl : j = n := by omega
   have q1 : decide ((j : Int) < (j : Int)) = false := by simp
   have y3 := hid (bnext y2.out hB.out)
   clear hlt HQ3
   go_wp2_with fail
   refine (PO _ _ (HV.out.call y3.out)).out.mono ?_; rintro e w4 ⟨⟨u4, rfl, hown⟩, hb4⟩
   rw [HN.out] at hown
   obtain ⟨g4, c4, rfl⟩ := own_shape hown HNP.out
   have O4 := hid hown
   have R4 := hid (Row.of_owns hown)
   have d4 := hid hb4
   clear hown hb4
   go_wp2_with fail
   refine (PS _ _ R4.out).out.mono ?_; rintro e w5 ⟨rfl, hb5⟩
   have d5 := hid hb5; clear hb5
   go_wp2_with fail
   refine (PF _).out.mono ?_; rintro e w6 ⟨⟨E6, rfl⟩, hb6⟩
   have d6 := hid (bnext d5.out hb6); clear hb6
   go_wp2_with fail
   refine (PD _).out.mono ?_; rintro e w7 ⟨rfl, hb7⟩
   have d7 := hid (bnext d6.out hb7); clear hb7
   have O7 := hid (owns_call O4.out d7.out)
   obtain ⟨k1, k2, k3, k4, -, -, -⟩ := own_slot O7.out
   have c7 := k4 m _ (strs_get HSL.out)
   have KB := hid k1
   clear k1 k2 k3 k4
   go_wp2_with fail
   refine (PE _).out.mono ?_; rintro e w8 ⟨rfl, hb8⟩
   have d8 := hid (bnext d7.out hb8); clear hb8 c7
   have O8 := hid (owns_call O4.out d8.out)
   obtain ⟨k1, k2, k3, k4, -, -, -⟩ := own_slot O8.out
   have c8 := k4 m _ (strs_get HSL.out)
   have f8 := k3 m
   have BN := hid ((bnext d4.out d8.out).setCell (p := ⟨g4, m, none⟩) KB.out (.string rr))
   have RN := hid (Row.of_owns (own_set O8.out m (.string rr)))
   rw [strs_set, ← EV.out] at RN
   clear k1 k2 k3 k4
   go_wp2_with fail
   refine (PR _ _ RN.out (HL.out.call (bnext y3.out BN.out))).out.mono ?_; rintro e w10 ⟨⟨u10, rfl, hu10⟩, hb10⟩
   have d10 := hid (bnext BN.out hb10)
   have U10 := hid hu10
   have R10 := hid (RN.out.call hb10)
   obtain ⟨a10, c10, rfl, t1, t2, t3⟩ := hu10.openZ
   rw [HZN.out] at t1 U10 ⊢
   have HT3 := hid t3
   have RV3 := hid (fun (jj : Nat) (x : ByteArray) (hx : V[jj]? = some x) => (show w10.cell? ⟨g4, jj, none⟩ = some (.string x) ∧ g4 < w10.heap.size from by
    obtain ⟨g', o', e', k0, kk⟩ := R10.out.at (strs_get hx)
    simp only [Option.some.injEq, Addr.mk.injEq, and_true] at e'
    obtain ⟨rfl, rfl⟩ := e'
    rw [Nat.zero_add] at kk
    exact ⟨kk, k0⟩))
   have y10 := hid (bnext y3.out d10.out)
   clear hu10 hb10 t3 c8 f8
   go_wp2_with fail
   go_loopw [17, 18, 19, 20, 21, 22, 23] (fun s17 s18 s19 s20 s21 s22 s23 wr => ∃ jj : Nat, s18 = .int .i64 (jj : Nat) ∧ jj ≤ j ∧ Hid (wr.ownsRow w10.heap.size 23 1 s17 jj (strs (U.take jj))) ∧ Hid (Below w10.heap.size w10 wr)) (fun s17 s18 s19 s20 s21 s22 s23 wr => j - (intOf s18).toNat)
   case atStart => exact ⟨0, rfl, Nat.zero_le _, World.ownsRow_nil _ _ _ _, Below.refl _ _⟩
   case round =>
    obtain ⟨jj, rfl, hjj, hO, hBB⟩ := hrel
    by_cases hlt2 : jj < j
    ·obtain ⟨z, hz⟩ : ∃ x, Z[jj]? = some x := ⟨_, List.getElem?_eq_getElem (by rw [HZN.out]; exact hlt2)⟩
     obtain ⟨x, hx⟩ : ∃ x, V[jj]? = some x := ⟨_, List.getElem?_eq_getElem (by rw [HVN.out]; exact hlt2)⟩
     have hUj : U[jj]? = some (zB z) := by rw [← HUZ.out, List.getElem?_map, hz]; rfl
     obtain ⟨nb, hcm⟩ := HNEAR.out jj x z hx hz
     obtain ⟨gz, oz, rfl, hgz, kz⟩ := HT3.out jj z hz
     have KC := hid (fun W (h : Below w10.heap.size w10 W) => (show W.cell? ⟨g4, jj, none⟩ = some (.string x) from (h.cell (p := ⟨g4, jj, none⟩) (RV3.out jj x hx).2).trans (RV3.out jj x hx).1))
     have m2 := (hBB.out.cell (p := ⟨gz, oz + jj, none⟩) hgz).trans kz
     have PI := fun W => hid (r2_IntW W z (by omega) (by omega))
     have hzs := zB_small nb
     have PSx := fun W => PSb W (zB z) x (by omega) (ZV.out x (List.mem_of_getElem? hx))
     have ds1 := o2_size (· - ·) (zB z) x
     obtain ⟨D1, hD1⟩ : ∃ d, op2B (· - ·) (zB z) x = d := ⟨_, rfl⟩
     obtain ⟨E1, hE1⟩ : ∃ d, op2E (· - ·) (zB z) x = d := ⟨_, rfl⟩
     rw [hD1] at PSx ds1 hcm
     rw [hE1] at PSx
     have PAx := fun W => PAb W D1 (by omega)
     have ds2 := abB_sizeR D1
     obtain ⟨D2, hD2⟩ : ∃ d, abB D1 = d := ⟨_, rfl⟩
     rw [hD2] at PAx ds2 hcm
     have PCx := fun W => PCm W D2 (by omega)
     obtain ⟨C, hC⟩ : ∃ d, cmB D2 o1B = d := ⟨_, rfl⟩
     obtain ⟨CE, hCE⟩ : ∃ d, cmE D2 o1B = d := ⟨_, rfl⟩
     rw [hC, hCE] at PCx
     rw [hC] at hcm
     have q5 : decide ((0 : Int) ≤ C) = false := decide_eq_false (by omega)
     have HZB := hid hUj
     obtain ⟨T, hT⟩ : ∃ T, zB z = T := ⟨_, rfl⟩
     rw [hT] at PI PSx HZB
     have f1 : (0 : Int) ≤ (jj : Int) := by omega
     have f2 : (jj : Int) < (j : Int) := by omega
     have wi : IntKind.i64.wrap ((jj : Int) + 1) = ((jj + 1 : Nat) : Int) := by have := HN12.out; rw [IntWalk.i64_in _ ⟨by omega, by omega⟩]; omega
     have HLT2 := hid hlt2
     have HCM := hid hcm
     clear hz hx hUj nb hcm hgz kz hzs ds1 hD1 hE1 ds2 hD2 hC hCE hT hlt2
     go_wp2_with fail
     refine (PI _).out.mono ?_; rintro e w11 ⟨rfl, hb11⟩
     have e11 := hid hb11; clear hb11 m2
     have m3 := KC.out _ (bnext hBB.out e11.out)
     go_wp2_with fail
     refine (PSx _).out.mono ?_; rintro e w12 ⟨rfl, hb12⟩
     have e12 := hid (bnext e11.out hb12); clear hb12 m3
     go_wp2_with fail
     refine (PAx _).out.mono ?_; rintro e w13 ⟨⟨E13, rfl⟩, hb13⟩
     have e13 := hid (bnext e12.out hb13); clear hb13
     go_wp2_with fail
     refine (PCx _).out.mono ?_; rintro e w14 ⟨rfl, hb14⟩
     have e14 := hid (bnext e13.out hb14); clear hb14
     have y14 := hid (bnext hBB.out e14.out)
     have O2 := hid (owns_call hO.out e14.out)
     have OA := hid (owns_call O2.out ((Below.refl _ _).alloc (Nat.le_refl _) (.cells #[.string T] 23)))
     have YA := hid (y14.out.alloc y14.out.size (.cells #[.string T] 23))
     have Z2 := hid (Blk.new w14 #[.string T] 23)
     go_wp2_with (at_builtin; refine wpList_append_own_at _ rfl _ _ 22 rfl w10.heap.size 23 i0 (.string ⟨#[]⟩) 1 16 Tryz.underlying22 hi0 hz0 hz1 hz2 rfl (by decide) _ jj (strs (U.take jj)) rfl OA.out ⟨w14.heap.size, 0, none⟩ 1 1 [.string T] rfl rfl (news_blk Z2.out) (by simp [Value.oneCell']) (by have := HN12.out; have := HLT2.out; unfold maxLen; omega) (by have := HN12.out; have := HLT2.out; omega) (by have := y14.out.size; simp; omega) ?_
                  intro v' w15 hown hgrow _ hat
                  have O3 := hid (show w15.ownsRow w10.heap.size 23 1 v' (jj + 1) (strs (U.take (jj + 1))) by rw [List.take_add_one, HZB.out, Option.toList_some, strs_snoc]; exact hown)
                  have B3 := hid (owned_below OA.out YA.out hgrow)
                  clear hown hgrow hat)
     go_roundw
     case rel => exact ⟨jj + 1, by go_num, by have := HLT2.out; omega, O3, B3⟩
     case measure => simp [intOf] <;> (have := HLT2.out; omega)
    ·obtain rfl : jj = j := by omega
     have q1 : decide ((jj : Int) < (jj : Int)) = false := by simp
     have hT : U.take jj = U := List.take_of_length_le (by rw [HUN.out]; exact Nat.le_refl _)
     rw [hT] at hO
     obtain ⟨gi, ci, rfl⟩ := own_shape hO.out HNP.out
     have RU := hid (Row.of_owns hO.out)
     have e10 := hid hBB.out
     clear hlt2 hT HT3 RV3 HNEAR hO
     go_wp2_with fail
     refine (PO2 _ _ RU.out).out.mono ?_; rintro e w16 ⟨⟨u16, rfl, hown⟩, hb16⟩
     rw [HUN.out] at hown
     obtain ⟨g6, c6, rfl⟩ := own_shape hown HNP.out
     have O16 := hid hown
     have b16 := hid hb16
     obtain ⟨k1, k2, k3, k4, -, -, -⟩ := own_slot hown
     have KB6 := hid k1
     have c16 := k4 i _ (strs_get HUI.out)
     clear hown hb16 k1 k2 k3 k4
     go_wp2_with fail
     refine (HPP.out _).mono ?_; rintro e w16a ⟨rfl, rfl⟩
     go_wp2_with fail
     refine (HPQ.out _).mono ?_; rintro e w16b ⟨rfl, rfl⟩
     have i1 : (0 : Int) ≤ (i : Int) := by omega
     have i2 : (i : Int) < (jj : Int) := by have := HI.out; omega
     have i3 : (0 : Int) ≤ (k : Int) := by omega
     have i4 : (k : Int) < (jj : Int) := by have := HK.out; omega
     go_wp2_with fail
     refine (PAi _).out.mono ?_; rintro e w17 ⟨rfl, hb17⟩
     have d17 := hid hb17; clear hb17 c16
     have O17 := hid (owns_call O16.out d17.out)
     obtain ⟨k1, k2, k3, k4, -, -, -⟩ := own_slot O17.out
     have c17 := k4 i _ (strs_get HUI.out)
     have f17 := k3 i
     have B18 := hid ((bnext b16.out d17.out).setCell (p := ⟨g6, i, none⟩) KB6.out (.string Ai))
     have O18 := hid (own_set O17.out i (.string Ai))
     rw [strs_set, ← EA.out] at O18
     clear k1 k2 k3 k4
     obtain ⟨k1, k2, k3, k4, -, -, -⟩ := own_slot O18.out
     have c18 := k4 k _ (strs_get HUK.out)
     clear k1 k2 k3 k4
     go_wp2_with fail
     refine (PAk _).out.mono ?_; rintro e w19 ⟨rfl, hb19⟩
     have d19 := hid hb19; clear hb19 c18 c17 f17
     have O19 := hid (owns_call O18.out d19.out)
     obtain ⟨k1, k2, k3, k4, -, -, -⟩ := own_slot O19.out
     have c19 := k4 k _ (strs_get HUK.out)
     have f19 := k3 k
     have B20 := hid ((B18.out.trans (d19.out.mono B18.out.size)).setCell (p := ⟨g6, k, none⟩) KB6.out (.string Ak))
     have R20 := hid (Row.of_owns (own_set O19.out k (.string Ak)))
     rw [strs_set, ← EO.out] at R20
     have RU20 := hid (RU.out.call B20.out)
     have e20 := hid (bnext e10.out B20.out)
     have RV20 := hid (R10.out.call e20.out)
     clear k1 k2 k3 k4
     go_wp2_with fail
     refine (PSU _ _ RU20.out).out.mono ?_; rintro e w21 ⟨rfl, hb21⟩
     have d21 := hid hb21; clear hb21 c19 f19
     go_wp2_with fail
     refine (PSV _ _ (RV20.out.call d21.out)).out.mono ?_; rintro e w22 ⟨rfl, hb22⟩
     have d22 := hid (bnext d21.out hb22); clear hb22
     go_wp2_with fail
     refine (PD1 _ _ _ (RV20.out.call d22.out) (RU20.out.call d22.out)).out.mono ?_; rintro e w23 ⟨rfl, hb23⟩
     have d23 := hid (bnext d22.out hb23); clear hb23
     go_wp2_with fail
     refine (PD2 _ _ _ (RV20.out.call d23.out) (R20.out.call d23.out)).out.mono ?_; rintro e w24 ⟨rfl, hb24⟩
     have d24 := hid (bnext d23.out hb24); clear hb24
     go_wp2_with fail
     refine (PLs _).out.mono ?_; rintro e w25 ⟨rfl, hb25⟩
     have d25 := hid (bnext d24.out hb25); clear hb25
     go_wp2_with fail
     go_ret
     exact ⟨rfl, bnext (bnext y10.out e20.out) d25.out⟩
theorem w_SmoothRound (w : World) (v : Value) (l : List ByteArray) (p q : Int) (hv : Row w v (strs l)) (hz : ∀ s ∈ l, s.size ≤ 9223372036854775807) (hp1 : -9223372036854775808 ≤ p) (hp2 : p ≤ 9223372036854775807) (hq1 : -9223372036854775808 ≤ q) (hq2 : q ≤ 9223372036854775807) (hL : Lay w) :
 Calls Tryz.prog 5 #[v, .int .i64 p, .int .i64 q] w fun e w' => e = .returned (.bool true) ∧ Below w.heap.size w w' := by
 by_cases hall : validB l = true ∧ ∀ s ∈ l, s.size ≤ 12
 ·obtain ⟨h1, h2⟩ := hall
  have V := VL.of h1
  exact rnd_walk w v l p q hv hL ⟨V.q, h2, V.pos, V.le⟩ h1 hp1 hp2 hq1 hq2
 ·have PL := hid (w_lives29 w hL)
  have PV1 := fun V x hx => hid (w_valid V x l hx hz)
  have HV := hid hv
  obtain ⟨a1, c1, rfl, q1, q2, q3⟩ := hv.openS
  obtain ⟨n, hn⟩ : ∃ M, l.length = M := ⟨_, rfl⟩
  have HLE := hid (show validB l = true → n ≤ 12 from fun h => by have := (VL.of h).le; omega)
  obtain ⟨V1, hV1⟩ : ∃ V, validB l = V := ⟨_, rfl⟩
  rw [hV1] at PV1 hall HLE
  rw [hn] at q1 HV ⊢
  have HQ3 := hid q3; have HN := hid hn
  clear hv hV1 hn hz hL q3 hp1 hp2 hq1 hq2
  cases V1
  ·clear hall HLE
   go_enter Tryz.func5, Tryz.ntmps5
   go_wp2_with fail
   refine PL.out.mono ?_; rintro e w1 ⟨rfl, hb1⟩
   have y1 := hid hb1; clear hb1 PL
   go_wp2_with fail
   refine (PV1 _ _ (HV.out.call y1.out)).out.mono ?_; rintro e w2 ⟨rfl, hb2⟩
   have y2 := hid (bnext y1.out hb2); clear hb2
   go_wp2_with fail
   go_ret
   exact ⟨rfl, y2.out⟩
  ·have HNO := hid (show ¬ ∀ s ∈ l, s.size ≤ 12 from fun h => hall ⟨rfl, h⟩)
   have N12 := hid (HLE.out rfl)
   clear hall HLE
   go_enter Tryz.func5, Tryz.ntmps5
   go_wp2_with fail
   refine PL.out.mono ?_; rintro e w1 ⟨rfl, hb1⟩
   have y1 := hid hb1; clear hb1 PL
   go_wp2_with fail
   refine (PV1 _ _ (HV.out.call y1.out)).out.mono ?_; rintro e w2 ⟨rfl, hb2⟩
   have y2 := hid (bnext y1.out hb2); clear hb2
   go_wp2_with fail
   go_loopw [7] (fun s7 wr => ∃ j : Nat, s7 = .int .i64 (j : Nat) ∧ j ≤ n ∧ Hid (∀ (i : Nat) (x : ByteArray), i < j → l[i]? = some x → x.size ≤ 12) ∧ Hid (Below w2.heap.size w2 wr)) (fun s7 wr => n - (intOf s7).toNat)
   case atStart => exact ⟨0, rfl, Nat.zero_le _, fun i x hi => absurd hi (by omega), Below.refl _ _⟩
   case round =>
    obtain ⟨j, rfl, hj, hI, hB⟩ := hrel
    by_cases hlt : j < n
    ·obtain ⟨x, hx⟩ : ∃ x, l[j]? = some x := ⟨_, List.getElem?_eq_getElem (by rw [HN.out]; exact hlt)⟩
     obtain ⟨gx, ox, rfl, hgx, kx⟩ := HQ3.out j x hx
     have k1 := ((bnext y2.out hB.out).cell (p := ⟨gx, ox + j, none⟩) hgx).trans kx
     have f1 : (0 : Int) ≤ (j : Int) := by omega
     have f2 : (j : Int) < (n : Int) := by omega
     have wi : IntKind.i64.wrap ((j : Int) + 1) = ((j + 1 : Nat) : Int) := by have := N12.out; rw [IntWalk.i64_in _ ⟨by omega, by omega⟩]; omega
     have HLT := hid hlt
     have HX := hid hx
     clear hx hgx kx hlt
     by_cases hs : x.size ≤ 12
     ·have q1 : decide ((12 : Int) < (x.size : Int)) = false := decide_eq_false (by omega)
      have HS := hid hs
      clear hs
      go_wp2_with fail
      go_roundw
      case rel => exact ⟨j + 1, by go_num, by have := HLT.out; omega, fun i y hi hy => by
       rcases Nat.lt_or_ge i j with h | h
       ·exact hI.out i y h hy
       ·obtain rfl : i = j := by omega
        rw [HX.out] at hy
        cases hy
        exact HS.out, hB.out⟩
      case measure => simp [intOf] <;> (have := HLT.out; omega)
     ·have q1 : decide ((12 : Int) < (x.size : Int)) = true := decide_eq_true (by omega)
      clear hs
      go_wp2_with fail
      go_ret
      exact ⟨rfl, bnext y2.out hB.out⟩
    ·obtain rfl : j = n := by omega
     exact absurd (fun s hs => by
      obtain ⟨i, hi⟩ := List.getElem?_of_mem hs
      exact hI.out i s (by have := (List.getElem?_eq_some_iff.1 hi).1; rw [HN.out] at this; exact this) hi) HNO.out
end Go.Proofs.YtlimaehdmcnjaaaGreatDoor
