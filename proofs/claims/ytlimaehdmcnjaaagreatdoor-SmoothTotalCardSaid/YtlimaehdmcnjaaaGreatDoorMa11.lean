/- Texts that the proof rests on, merged: So16, So10, KoS, KsI, Slw, Snm, Sv1, Sy0, R4s, R2s, R2t. -/
import Derived.Test.YtlimaehdmcnjaaaGreatDoorMa10
import Derived.Laws.Concat
import Derived.Deep.DeepCutAuto
set_option linter.unusedVariables false
set_option linter.unusedSimpArgs false
set_option linter.unusedSectionVars false
set_option maxRecDepth 100000
set_option maxHeartbeats 8000000
namespace Go.Proofs.YtlimaehdmcnjaaaGreatDoor
open Go.RowKit
open Go.Shelf
open Go.Lib (decDigits nDigits)
theorem rd_bad1 (w : World) (v : Value) (l : List ByteArray) (hv : Row w v (strs l)) (hs : ∀ s ∈ l, s.size ≤ 1000000) (hL : Lay w) (hve : vecE l ≠ 0) :
 Calls Tryz.prog 23 #[v] w fun e w' => (∃ u, e = .returned (.tuple #[u, .int .i64 (rdE l)]) ∧ Row w' u (zs (rdR' l))) ∧ Below w.heap.size w w' := by
 have HB := hid (s_read w v l hv hs hL)
 obtain ⟨e1, e2⟩ := rdE_bad hve
 rw [e1, e2]
 have t2 : (vecE l == 0) = false := by simpa using hve
 have t3 : (vecE l != 0) = true := by simpa using hve
 have HV := hid hve
 obtain ⟨a, c, rfl, -, -, -⟩ := hv.openS
 obtain ⟨N, hN⟩ : ∃ n, l.length = n := ⟨_, rfl⟩
 rw [hN] at HB ⊢
 obtain ⟨E, hE⟩ : ∃ x, vecE l = x := ⟨_, rfl⟩
 rw [hE] at HB t2 t3 HV ⊢
 clear hv hs hL hN hve hE e1 e2
 go_enter Tryz.func23, Tryz.ntmps23
 go_wp2_with fail
 refine HB.out.mono ?_; rintro e w1 ⟨⟨u, rfl, -, hu⟩, hb1⟩
 obtain rfl := hu HV.out
 have y1 := hid hb1
 clear hb1 hu
 go_wp2_with fail
 go_ret2
 exact ⟨⟨.slice none 0 0, rfl, Row.nil _⟩, y1.out⟩
theorem rd_bad2 (w : World) (v : Value) (l : List ByteArray) (hv : Row w v (strs l)) (hs : ∀ s ∈ l, s.size ≤ 1000000) (hL : Lay w) (hve : vecE l = 0) (hbad : (rs (l.map vQ)).den ≠ 1 ∨ (l.map vQ).any (farB bigR) = true) :
 Calls Tryz.prog 23 #[v] w fun e w' => (∃ u, e = .returned (.tuple #[u, .int .i64 (if (rs (l.map vQ)).den = 1 then 2 else 15)]) ∧ Row w' u (zs [])) ∧ Below w.heap.size w w' := by
 have HB := hid (s_read w v l hv hs hL)
 rw [hve] at HB
 obtain ⟨g1, g2, hq0⟩ := vecE_ok hve
 obtain ⟨N, hN⟩ : ∃ n, l.length = n := ⟨_, rfl⟩
 have hdq := dig_vqs hve
 have hlen : (l.map vQ).length = N := by rw [List.length_map, hN]
 obtain ⟨qs, hqs⟩ : ∃ qs, l.map vQ = qs := ⟨_, rfl⟩
 rw [hqs] at HB hbad hdq hlen ⊢
 have HSm := fun V v h => hid (s_sum V w.heap.size v qs h (by omega) hdq)
 have HON := fun V v h => hid (l_One V v (rs qs).den h)
 have HSl := fun V => hid (s_small V 1000000000000 (by omega))
 have lB : Lim bigR := Lim.of (K := 20) ⟨by unfold bigR; rw [Rat.num_natCast]; decide, by unfold bigR; rw [Rat.den_natCast]; decide⟩ (by omega)
 have HCF := fun V v g hv hg => hid (s_ContF V w.heap.size v qs bigR g hv (by omega) (fun q hq => Lim.of (hdq q hq) (by omega)) hg lB)
 have HN := hid hlen
 have HBAD := hid hbad
 obtain ⟨a, c, rfl, -, -, -⟩ := hv.openS
 rw [hN] at HB ⊢
 clear hv hs hL hN g1 g2 hdq hlen lB hve hq0 hqs hbad
 go_enter Tryz.func23, Tryz.ntmps23
 go_wp2_with fail
 refine HB.out.mono ?_; rintro e w1 ⟨⟨u, rfl, hu, -⟩, hb1⟩
 have hu1 := hu trivial
 have y1 := hid hb1
 have RV := hid hu1
 obtain ⟨av, cv, rfl, -, -⟩ := hu1.slice
 rw [HN.out] at RV ⊢
 clear hb1 hu hu1
 go_wp2_with fail
 refine (HSm _ _ RV.out).out.mono ?_; rintro e w2 ⟨⟨u2, rfl, hu2⟩, hb2⟩
 obtain ⟨m2, a2, n2, c2, b2, d2, e2, rfl⟩ := hu2.qv
 have Q2 := hid (hu2.call ((Below.refl w2.heap.size w2).alloc (Nat.le_refl _) (.cells #[.bool m2, .slice a2 n2 c2, .slice b2 d2 e2] 57)))
 have X2 := Blk.new w2 #[.bool m2, .slice a2 n2 c2, .slice b2 d2 e2] 57
 have z2 := hid (bnext hb2 ((Below.refl w2.heap.size w2).alloc (Nat.le_refl _) (.cells #[.bool m2, .slice a2 n2 c2, .slice b2 d2 e2] 57)))
 obtain ⟨g6, hg6⟩ : ∃ g, w2.heap.size = g := ⟨_, rfl⟩
 obtain ⟨W2, hW2⟩ : ∃ x, w2.alloc (.cells #[.bool m2, .slice a2 n2 c2, .slice b2 d2 e2] 57) = x := ⟨_, rfl⟩
 rw [hW2] at Q2 z2 X2
 rw [hg6] at X2
 have r2 := X2.cell 2
 simp at r2
 clear hb2 hu2 X2
 go_wp2_with fail
 clear hW2 hg6 r2
 refine (HON _ _ (isQ_partsU Q2.out).2).out.mono ?_; rintro e w3 ⟨rfl, rfl⟩
 by_cases hden : (rs qs).den = 1
 ·have hone : isO (rs qs).den = true := by rw [isO_den, hden]; rfl
  have HDN := hid hden
  have hany : qs.any (farB bigR) = true := HBAD.out.resolve_left fun h => h hden
  rw [hany] at HCF
  rw [hone]
  clear hone hany hden
  go_wp2_with fail
  refine (HSl _).out.mono ?_; rintro e w3 ⟨⟨u3, rfl, hu3⟩, hb3⟩
  obtain ⟨m3, a3, n3, c3, b3, d3, e3, rfl⟩ := hu3.qv
  have A3 := (Below.refl w3.heap.size w3).alloc (Nat.le_refl _) (.cells #[.bool m3, .slice a3 n3 c3, .slice b3 d3 e3] 57)
  have z3 := hid (bnext z2.out (bnext hb3 A3))
  have FH := hid (FB.new hu3)
  obtain ⟨g7, hg7⟩ : ∃ g, w3.heap.size = g := ⟨_, rfl⟩
  obtain ⟨W3, hW3⟩ : ∃ x, w3.alloc (.cells #[.bool m3, .slice a3 n3 c3, .slice b3 d3 e3] 57) = x := ⟨_, rfl⟩
  rw [hW3] at z3 FH
  rw [hg7] at FH
  clear hb3 hu3 A3 Q2 z2
  go_wp2_with fail
  clear hW3 hg7
  refine (HCF _ _ _ (RV.out.call z3.out) FH.out).out.mono ?_; rintro e w4 ⟨rfl, hb4⟩
  have z4 := hid (bnext y1.out (bnext z3.out hb4))
  clear hb4
  go_wp2_with fail
  go_ret2
  exact ⟨⟨_, rfl, Row.nil _⟩, z4.out⟩
 ·have hone : isO (rs qs).den = false := by rw [isO_den]; exact decide_eq_false hden
  have HDN := hid hden
  have z4 := hid (bnext y1.out z2.out)
  rw [hone]
  clear hone hden
  go_wp2_with fail
  go_ret2
  exact ⟨⟨_, rfl, Row.nil _⟩, z4.out⟩
theorem s_Round (w : World) (v : Value) (l : List ByteArray) (hv : Row w v (strs l)) (hs : ∀ s ∈ l, s.size ≤ 1000000) (hl : l.length ≤ 12) (hL : Lay w) :
 Calls Tryz.prog 23 #[v] w fun e w' => (∃ u, e = .returned (.tuple #[u, .int .i64 (rdE l)]) ∧ Row w' u (zs (rdR' l))) ∧ Below w.heap.size w w' := by
 by_cases hve : vecE l = 0
 ·by_cases hbad : (rs (l.map vQ)).den ≠ 1 ∨ (l.map vQ).any (farB bigR) = true
  ·have e0 : rdE l = if (rs (l.map vQ)).den = 1 then 2 else 15 := by
    unfold rdE
    rw [if_pos hve]
    by_cases hd : (rs (l.map vQ)).den = 1
    ·rw [if_pos hd, if_pos hd, if_pos]
     have h := hbad.resolve_left fun h => h hd
     rw [← h]
     congr 1
     funext q
     exact farB_is.symm
    ·rw [if_neg hd, if_neg hd]
   have e1 : rdR' l = [] := by
    unfold rdR'
    rw [if_neg]
    rw [e0]
    split <;> decide
   rw [e0, e1]
   exact rd_bad2 w v l hv hs hL hve hbad
  ·have hd : (rs (l.map vQ)).den = 1 := Decidable.byContradiction fun h => hbad (.inl h)
   have hf : ∀ q ∈ l.map vQ, ¬ (bigR < q ∨ q < -bigR) := fun q hq h => hbad (.inr (List.any_eq_true.2 ⟨q, hq, by rw [farB_is]; exact decide_eq_true h⟩))
   have e0 : rdE l = 0 := by
    unfold rdE
    rw [if_pos hve, if_pos hd, if_neg]
    intro h
    obtain ⟨q, hq, h2⟩ := List.any_eq_true.1 h
    exact hf q hq (by simpa using h2)
   have e1 : rdR' l = rdL (l.map vQ) (rdM (l.map vQ)) := by unfold rdR'; rw [if_pos e0]
   rw [e0, e1]
   exact rd_main w v l hv hs hl hL hve hd hf
 ·exact rd_bad1 w v l hv hs hL hve
theorem info_blk : (Tryz.prog.info? 73).map (fun i => (i.zero, i.size, i.bytes)) = some (some (.agg #[.bool false, .slice none 0 0, .slice none 0 0, .int .i64 0]), 4, 64) := by kernel_rfl
theorem noz_blk : NoKL .u64 (Value.cells (.agg #[.bool false, .slice none 0 0, .slice none 0 0, .int .i64 0])).toList := by intro x hx; simp [Value.cells] at hx
theorem nok4 (m : Bool) (a b : Option Addr) (n p n' p' : Nat) (k : Int) : NoKL .u64 [[Value.bool m, .slice a n p, .slice b n' p', .int .i64 k]].flatten := by intro x hx; simp at hx
theorem one4 (m : Bool) (a b : Option Addr) (n p n' p' : Nat) (k : Int) : ∀ u ∈ [[Value.bool m, .slice a n p, .slice b n' p', .int .i64 k]].flatten, u.oneCell' = true := by intro u hu; simp at hu; rcases hu with rfl | rfl | rfl | rfl <;> rfl
theorem len4 (x y z t : Value) : ∀ d ∈ [[x, y, z, t]], d.length = 4 := by intro d hd; simp at hd; subst hd; rfl
theorem news4 {W : World} {g : Nat} {x y z t : Value} {ty : TypeId} (h : Blk W g #[x, y, z, t] ty) : ∀ j u, [[x, y, z, t]].flatten[j]? = some u → W.cell? ((⟨g, 0, none⟩ : Addr).add j) = some u := fun j u hj => by
 rw [Addr.add_lit, Nat.zero_add, h.cell]
 simpa using hj
theorem BRow.app {B : Nat} {W W' : World} {v' : Value} {cs : List (List Value)} {bs : List (Rat × Nat)} {c : List Value} {b : Rat × Nat} (hl : cs.length = bs.length) (h : ∀ (i : Nat) (b : Rat × Nat), bs[i]? = some b → ∃ c, cs[i]? = some c ∧ BC W c b) (hk : KRow .u64 73 4 B W' v' (cs ++ [c])) (hkeep : KeepK .u64 W W') (hc : BC W c b) : BRow B W' v' (bs ++ [b]) := by
 refine ⟨cs ++ [c], hk, by simp [hl], fun i x hx => ?_⟩
 by_cases hi : i < bs.length
 ·rw [List.getElem?_append_left hi] at hx
  rw [List.getElem?_append_left (by omega)]
  obtain ⟨d, h1, h2⟩ := h i x hx
  exact ⟨d, h1, h2.keep hkeep⟩
 ·have hl2 := (List.getElem?_eq_some_iff.1 hx).1
  rw [List.length_append, List.length_singleton] at hl2
  obtain rfl : i = bs.length := by omega
  rw [List.getElem?_append_right (Nat.le_refl _), Nat.sub_self] at hx
  rw [List.getElem?_append_right (by omega), hl, Nat.sub_self]
  obtain rfl : b = x := by simpa using hx
  exact ⟨c, rfl, hc.keep hkeep⟩
theorem QL.append {k : IntKind} {W : World} {cs cr : List (List Value)} {qs rs : List Rat} (h : QL k W cs qs) (h2 : QL k W cr rs) : QL k W (cs ++ cr) (qs ++ rs) := by
 refine ⟨by simp [h.len, h2.len], fun i q hq => ?_⟩
 by_cases hi : i < qs.length
 ·rw [List.getElem?_append_left hi] at hq
  rw [List.getElem?_append_left (by rw [h.len]; exact hi)]
  exact h.at_ i q hq
 ·rw [List.getElem?_append_right (by omega)] at hq
  rw [List.getElem?_append_right (by rw [h.len]; omega), h.len]
  exact h2.at_ _ q hq
def outL (st : List (Rat × Nat)) : List Rat := st.flatMap fun b => List.replicate b.2 (bm b)
theorem outL_take {st : List (Rat × Nat)} {i : Nat} {b : Rat × Nat} (h : st[i]? = some b) : outL (st.take (i + 1)) = outL (st.take i) ++ List.replicate b.2 (bm b) := by
 unfold outL
 rw [List.take_add_one, h, Option.toList_some, List.flatMap_append]
 simp
theorem mn_is {qs : List Rat} {st : List (Rat × Nat)} (h : st.reverse = pv qs) : mnL qs = outL st := by
 unfold mnL pvx outL
 rw [← h, List.reverse_reverse]
theorem pv_snoc {qs : List Rat} {i : Nat} {x : Rat} (h : qs[i]? = some x) : pv (qs.take (i + 1)) = pv1 (x, 1) (pv (qs.take i)) := by
 unfold pv
 rw [List.take_add_one, h, Option.toList_some, List.foldl_append]; rfl
structure StI (st : List (Rat × Nat)) (i : Nat) : Prop where
 all : ∀ b ∈ st, 0 < b.2 ∧ Dig (4001 * b.2 - 1) b.1
 sum : (st.map fun b => b.2).sum = i
theorem StI.nil : StI [] 0 := ⟨fun b hb => (by cases hb), rfl⟩
theorem StI.push {st : List (Rat × Nat)} {i : Nat} {x : Rat} (h : StI st i) (hx : Dig 4000 x) : StI (st ++ [(x, 1)]) (i + 1) := by
 refine ⟨fun b hb => ?_, by rw [List.map_append, List.sum_append, h.sum]; rfl⟩
 rcases List.mem_append.1 hb with hb | hb
 ·exact h.all b hb
 ·obtain rfl : b = (x, 1) := by simpa using hb
  exact ⟨Nat.one_pos, hx.up (by omega)⟩
theorem StI.merge {s : List (Rat × Nat)} {a b : Rat × Nat} {i : Nat} (h : StI (s ++ [a] ++ [b]) i) : StI (s ++ [(a.1 + b.1, a.2 + b.2)]) i := by
 refine ⟨fun c hc => ?_, ?_⟩
 ·rcases List.mem_append.1 hc with hc | hc
  ·exact h.all c (by simp [hc])
  ·obtain rfl : c = (a.1 + b.1, a.2 + b.2) := by simpa using hc
   obtain ⟨h1, h2⟩ := h.all a (by simp)
   obtain ⟨h3, h4⟩ := h.all b (by simp)
   exact ⟨by dsimp only; omega, (dig_add h2 h4).up (by dsimp only; omega)⟩
 ·have := h.sum
  simp only [List.map_append, List.sum_append, List.map_cons, List.map_nil, List.sum_cons, List.sum_nil] at this ⊢
  omega
theorem sum_mem : ∀ {l : List Nat} {x : Nat}, x ∈ l → x ≤ l.sum
 | y :: l, x, h => by
  rw [List.sum_cons]
  rcases List.mem_cons.1 h with rfl | h
  ·omega
  ·have := sum_mem h; omega
theorem StI.le {st : List (Rat × Nat)} {i : Nat} {b : Rat × Nat} (h : StI st i) (hb : b ∈ st) : b.2 ≤ i := by
 rw [← h.sum]
 exact sum_mem (List.mem_map.2 ⟨b, hb, rfl⟩)
theorem StI.len {st : List (Rat × Nat)} {i : Nat} (h : StI st i) : st.length ≤ i := by
 rw [← h.sum]
 have h1 := h.all
 clear h
 induction st with
 | nil => simp
 | cons b st ih =>
  have := ih fun c hc => h1 c (by simp [hc])
  have := (h1 b (by simp)).1
  rw [List.map_cons, List.sum_cons, List.length_cons]; omega
theorem StI.lim {st : List (Rat × Nat)} {i : Nat} {b : Rat × Nat} (h : StI st i) (hi : i ≤ 64) (hb : b ∈ st) : Lim b.1 := Lim.of (h.all b hb).2 (by have := h.le hb; omega)
theorem bm_dig {st : List (Rat × Nat)} {i : Nat} {b : Rat × Nat} (h : StI st i) (hi : i ≤ 64) (hb : b ∈ st) : Dig 300000 (bm b) := by
 obtain ⟨h1, h2⟩ := h.all b hb
 have h3 := h.le hb
 have dK : Dig 2 ((b.2 : Nat) : Rat) := ⟨by rw [Rat.num_natCast]; simp; omega, by rw [Rat.den_natCast]; omega⟩
 unfold bm
 rw [Rat.div_def]
 exact (dig_mul h2 (dig_inv (natR_ne h1) dK)).up (by omega)
theorem outL_len {st : List (Rat × Nat)} {i : Nat} (h : StI st i) : (outL st).length = i := by
 rw [← h.sum]
 unfold outL
 clear h
 induction st with
 | nil => rfl
 | cons b st ih => simp [List.flatMap_cons, ih]
theorem s_Monotone (w : World) (v : Value) (l : List ByteArray) (hv : Row w v (strs l)) (hs : ∀ s ∈ l, s.size ≤ 1000000) (hL : Lay w) :
 Calls Tryz.prog 19 #[v] w fun e w' => (∃ u, e = .returned (.tuple #[u, .int .i64 (mnE l)]) ∧ Row w' u (strs (mnR l))) ∧ Below w.heap.size w w' := by
 obtain ⟨i0, hi, hz0, hz1, hz2⟩ := info_parts info_fr
 obtain ⟨j0, hj0, hy0, hy1, hy2⟩ := info_parts info_blk
 have HR := hid (s_read w v l hv hs hL)
 have HL := hid hL
 obtain ⟨a, c, rfl, -, -, -⟩ := hv.openS
 obtain ⟨N, hN⟩ : ∃ n, l.length = n := ⟨_, rfl⟩
 rw [hN] at HR ⊢
 by_cases h0 : vecE l = 0
 case neg =>
  have e1 : mnE l = vecE l := by unfold mnE; rw [if_neg h0]
  have e2 : mnR l = [] := by unfold mnR; rw [if_neg h0]
  have t2 : (vecE l == 0) = false := by simpa using h0
  have t3 : (vecE l != 0) = true := by simpa using h0
  rw [e1, e2]
  obtain ⟨E, hE⟩ : ∃ x, vecE l = x := ⟨_, rfl⟩
  rw [hE] at HR t2 t3 ⊢
  clear hv hs hL hN h0 hE e1 e2
  go_enter Tryz.func19, Tryz.ntmps19
  go_wp2_with fail
  refine HR.out.mono ?_; rintro e w1 ⟨⟨u, rfl, -, -⟩, hb1⟩
  have y1 := hid hb1
  clear hb1
  go_wp2_with fail
  go_ret2
  exact ⟨⟨.slice none 0 0, rfl, Row.nil _⟩, y1.out⟩
 case pos =>
  have e1 : mnE l = wrE (mnL (l.map vQ)) := by unfold mnE; rw [if_pos h0]
  have e2 : mnR l = wrL (mnL (l.map vQ)) := by unfold mnR; rw [if_pos h0]
  obtain ⟨g1, g2, -⟩ := vecE_ok h0
  have hdq := dig_vqs h0
  have hlen : (l.map vQ).length = N := by rw [List.length_map, hN]
  rw [e1, e2]
  rw [h0] at HR
  obtain ⟨qs, hqs⟩ : ∃ qs, l.map vQ = qs := ⟨_, rfl⟩
  rw [hqs] at HR hdq hlen ⊢
  have HDQ := hid hdq; have HN := hid hlen; have HNN := hid (show 0 < N ∧ N ≤ 64 by omega)
  clear hv hs hL hN h0 e1 e2 g1 g2 hdq hlen hqs
  go_enter Tryz.func19, Tryz.ntmps19
  go_wp2_with fail
  refine HR.out.mono ?_; rintro e w1 ⟨⟨u, rfl, hu, -⟩, hb1⟩
  have hu := hu (by simp)
  obtain ⟨av, cv, rfl, -, -⟩ := hu.slice
  have RV := hid hu
  have y1 := hid hb1
  rw [HN.out] at RV ⊢
  clear hb1 hu
  go_wp2_with fail
  go_loopw [6, 8, 9, 23] (fun s6 s8 s9 s23 wr => ∃ (i : Nat) (st : List (Rat × Nat)), s23 = .int .i64 (i : Nat) ∧ i ≤ N ∧ Hid (st.reverse = pv (qs.take i)) ∧ Hid (StI st i) ∧ Hid (BRow w1.heap.size wr s6 st) ∧ Hid (Below w1.heap.size w1 wr)) (fun s6 s8 s9 s23 wr => N - (intOf s23).toNat)
  case atStart => exact ⟨0, [], rfl, Nat.zero_le _, rfl, StI.nil, BRow.nil _ _, Below.refl _ _⟩
  case round =>
   obtain ⟨i, st, rfl, hi', hP, hS, hO, hB⟩ := hrel
   by_cases hlt : i < N
   ·obtain ⟨x, hx⟩ : ∃ x, qs[i]? = some x := ⟨_, List.getElem?_eq_getElem (by rw [HN.out]; exact hlt)⟩
    obtain ⟨gv, mx, ax, nx, cx, bx, dx, ex, rfl, -, -, k0, k1, k2, hQx⟩ := (RV.out.call hB.out).at hx
    have HPX := hid (pv_snoc hx)
    have HSP := hid (hS.out.push (HDQ.out x (List.mem_of_getElem? hx)))
    have A1 := hid ((Below.refl wr.heap.size wr).alloc (Nat.le_refl _) (.cells #[.bool mx, .slice ax nx cx, .slice bx dx ex] 57))
    have A2 := hid (A1.out.alloc A1.out.size (.cells #[.bool mx, .slice ax nx cx, .slice bx dx ex, .int .i64 1] 73))
    have Z2 := hid (show Blk ((wr.alloc (.cells #[.bool mx, .slice ax nx cx, .slice bx dx ex] 57)).alloc (.cells #[.bool mx, .slice ax nx cx, .slice bx dx ex, .int .i64 1] 73)) (wr.heap.size + 1) #[.bool mx, .slice ax nx cx, .slice bx dx ex, .int .i64 1] 73 from Blk.made _ _ _ (by simp))
    have y2 := hid (show Below w1.heap.size w1 _ from hB.out.trans (A2.out.mono hB.out.size))
    obtain ⟨cs, hk, hcl, hcb⟩ := (hO.out.call A2.out).ex
    have HK := hid hk; have HCB := hid hcb; have HCL := hid hcl
    have HSL := hid (show st.length ≤ 64 by have := hS.out.len; have := HNN.out; omega)
    have BC2 := hid (show BC _ [.bool mx, .slice ax nx cx, .slice bx dx ex, .int .i64 1] (x, 1) from ⟨mx, ax, nx, cx, bx, dx, ex, rfl, hQx.call A2.out⟩)
    have BSZ := hid (show w1.heap.size ≤ ((wr.alloc (.cells #[.bool mx, .slice ax nx cx, .slice bx dx ex] 57)).alloc (.cells #[.bool mx, .slice ax nx cx, .slice bx dx ex, .int .i64 1] 73)).heap.size from y2.out.size)
    have f1 : (0 : Int) ≤ (i : Int) := by omega
    have f2 : (i : Int) < (N : Int) := by omega
    have wi : IntKind.i64.wrap ((i : Int) + 1) = ((i + 1 : Nat) : Int) := by have := HNN.out; rw [IntWalk.i64_in _ ⟨by omega, by omega⟩]; omega
    have HLT := hid hlt
    have LST := hid (show (st ++ [(x, 1)]).length = st.length + 1 by simp)
    obtain ⟨as6, c6, e6, -, -⟩ := hO.out.slice
    subst e6
    clear hx hQx hk hcl hcb hlt hi'
    go_wp2_with (at_builtin; refine wpList_append_krow _ .u64 rfl _ _ 71 rfl w1.heap.size 73 j0 (.agg #[.bool false, .slice none 0 0, .slice none 0 0, .int .i64 0]) 4 64 Tryz.underlying71 hj0 hy0 hy1 hy2 rfl (by decide) noz_blk _ cs rfl HK.out ⟨wr.heap.size + 1, 0, none⟩ 1 1 [[.bool mx, .slice ax nx cx, .slice bx dx ex, .int .i64 1]] rfl rfl (len4 _ _ _ _) (news4 Z2.out) (one4 _ _ _ _ _ _ _ _) (nok4 _ _ _ _ _ _ _ _) (by rw [HCL.out]; have := HSL.out; unfold maxLen; omega) (by rw [HCL.out]; have := HSL.out; omega) BSZ.out ?_
                 intro v' w3 hown hgrow hkeep hat
                 have O3 := hid (BRow.app HCL.out HCB.out hown hkeep BC2.out)
                 have B3 := hid (krow_below HK.out y2.out hgrow)
                 obtain ⟨g3, c3, rfl, -⟩ := O3.out.nz LST.out (by omega)
                 clear hown hgrow hkeep hat)
    go_loopw [6, 9] (fun s6 s9 wx => ∃ (s : List (Rat × Nat)) (b : Rat × Nat) (J g c : Nat), Hid (s.length + 1 = J) ∧ s6 = .slice (some ⟨g, 0, none⟩) J c ∧ s9 = .int .i64 (J : Nat) ∧ Hid (pv1 b s.reverse = pv (qs.take (i + 1))) ∧ Hid (StI (s ++ [b]) (i + 1)) ∧ Hid (BRow w1.heap.size wx (.slice (some ⟨g, 0, none⟩) J c) (s ++ [b])) ∧ Hid (Below w1.heap.size w1 wx)) (fun s6 s9 wx => (intOf s9).toNat)
    case atStart => exact ⟨st, (x, 1), st.length + 1, g3, c3, rfl, rfl, by rw [Int.natCast_add]; rfl, by rw [hP.out]; exact HPX.out.symm, HSP, O3, B3⟩
    case round =>
     obtain ⟨s, b, J, g, c, hJ, rfl, rfl, hT, hSt, hBr, hBx⟩ := hrel
     rcases List.eq_nil_or_concat s with rfl | ⟨s', a, rfl⟩
     ·obtain rfl : 1 = J := hJ.out
      have PN := hid (show ([b] : List (Rat × Nat)).reverse = pv (qs.take (i + 1)) from hT.out)
      have BD := hid (hBr.out.call (Below.refl _ _).drew)
      have XD := hid (hBx.out.drew)
      clear hT hJ
      go_wp2_with fail
      refine held_plain [0, 1, 2, 3, 4, 5, 6, 7, 8, 9, 10, 11, 12, 13, 14, 15, 16, 17] 0 (fun _ => True) (by kernel_rfl) (by kernel_rfl) (by kernel_rfl) (by kernel_rfl) trivial ?_
      iterate 18
       refine ⟨_, rfl, ?_⟩
       apply Exists.intro
       first
        | (refine ⟨.inl ⟨by rfl, ?_⟩, ?_⟩
           ·(intro W' hW'; clear hW'; go_simp; try (with_reducible rfl)))
        | refine ⟨.inr ⟨by rfl, rfl⟩, ?_⟩
       (dsimp only [Act.put]; try simp only [List.setIfInBounds_toArray, List.set_cons_zero, List.set_cons_succ])
      refine wpAnyH_done (by kernel_rfl) ?_ _
      simp only [Only]
      go_wp2_with fail
      go_roundw
      case rel => exact ⟨i + 1, [b], by go_num, by have := HLT.out; omega, PN, hSt, BD, XD⟩
      case measure => simp [intOf] <;> (have := HLT.out; omega)
     ·rw [List.concat_eq_append] at hJ hT hSt hBr
      obtain ⟨qa, ka⟩ := a
      obtain ⟨qb, kb⟩ := b
      obtain ⟨p, hp⟩ : ∃ p, s'.length = p := ⟨_, rfl⟩
      have hJ2 : p + 2 = J := by have h := hJ.out; simp at h; omega
      obtain ⟨r, hr⟩ : ∃ r, p + 1 = r := ⟨_, rfl⟩
      have hat : (s' ++ [(qa, ka)] ++ [(qb, kb)])[p]? = some (qa, ka) := by rw [List.append_assoc, List.getElem?_append_right (by omega), hp, Nat.sub_self]; rfl
      have hbt : (s' ++ [(qa, ka)] ++ [(qb, kb)])[r]? = some (qb, kb) := by rw [List.append_assoc, List.getElem?_append_right (by omega), hp, show r - p = 1 by omega]; rfl
      obtain ⟨ma, aa, na, ca, ba, da, ea, hg0, hg1, k0, k1, k2, k3, hQa⟩ := hBr.out.at hat
      obtain ⟨mb, ab, nb, cb, bb, db, eb, -, -, l0, l1, l2, l3, hQb⟩ := hBr.out.at hbt
      dsimp only at k3 l3 hQa hQb
      have ia := hSt.out.all (qa, ka) (by simp)
      have ib := hSt.out.all (qb, kb) (by simp)
      have i64 : i + 1 ≤ 64 := by have := HLT.out; have := HNN.out; omega
      have ja := hSt.out.le (b := (qa, ka)) (by simp)
      have jb := hSt.out.le (b := (qb, kb)) (by simp)
      have la := hSt.out.lim i64 (b := (qa, ka)) (by simp)
      have lb := hSt.out.lim i64 (b := (qb, kb)) (by simp)
      have da' := bm_dig hSt.out i64 (b := (qa, ka)) (by simp)
      have db' := bm_dig hSt.out i64 (b := (qb, kb)) (by simp)
      dsimp only at ia ib ja jb la lb
      have lma := Lim.of da' (by omega); have lmb := Lim.of db' (by omega)
      have PMa := fun V hq => hid (s_mean V ma aa na ca ba da ea qa ka hq ia.1 (by omega) la)
      have PMb := fun V hq => hid (s_mean V mb ab nb cb bb db eb qb kb hq ib.1 (by omega) lb)
      have PCm := fun V v u hv hu => hid (f_Cmp V v u (bm (qa, ka)) (bm (qb, kb)) hv hu lma.1 lma.2 lmb.1 lmb.2)
      have PMg := fun V hr hq => hid (s_merge V w1.heap.size g J c p (s' ++ [(qa, ka)] ++ [(qb, kb)]) (qa, ka) hr hat mb ab nb cb bb db eb qb kb hq (by dsimp only; omega) la lb)
      have HT := hid (show (if bm (qb, kb) < bm (qa, ka) then pv1 (qa + qb, ka + kb) s'.reverse else (qb, kb) :: (qa, ka) :: s'.reverse) = pv (qs.take (i + 1)) by
       have h := hT.out
       rw [List.reverse_append] at h
       exact h)
      have hcz : 0 < cmF (bm (qa, ka)) (bm (qb, kb)) ↔ bm (qb, kb) < bm (qa, ka) := by
       have h1 := (cmF_sign (bm (qa, ka)) (bm (qb, kb))).1
       have h2 : ordQ (bm (qa, ka)) (bm (qb, kb)) ≤ 0 ↔ bm (qa, ka) ≤ bm (qb, kb) := ordQ_le_iff
       rw [h1]
       constructor
       ·intro h; exact Rat.not_le.1 fun e => by have := h2.2 e; omega
       ·intro h; have := mt h2.1 (Rat.not_le.2 h); omega
      obtain ⟨z, hz⟩ : ∃ z, cmF (bm (qa, ka)) (bm (qb, kb)) = z := ⟨_, rfl⟩
      rw [hz] at PCm hcz
      have HCZ := hid hcz
      have t1 : decide ((1 : Int) < (J : Int)) = true := decide_eq_true (by omega)
      have t1' : decide (1 < J) = true := decide_eq_true (by omega)
      have wp : IntKind.i64.wrap ((J : Int) - 2) = (p : Int) := by rw [IntWalk.i64_in _ ⟨by omega, by have := hSt.out.len; simp at this; omega⟩]; omega
      have wr' : IntKind.i64.wrap ((J : Int) - 1) = (r : Int) := by rw [IntWalk.i64_in _ ⟨by omega, by have := hSt.out.len; simp at this; omega⟩]; omega
      have f3 : (0 : Int) ≤ (p : Int) := by omega
      have f4 : (p : Int) < (J : Int) := by omega
      have f5 : (0 : Int) ≤ (r : Int) := by omega
      have f6 : (r : Int) < (J : Int) := by omega
      have KK : Hid (∀ V, Below wr.heap.size wr V → V.cell? ⟨g, p * 4, none⟩ = some (.bool ma) ∧ V.cell? ⟨g, p * 4 + 1, none⟩ = some (.slice aa na ca) ∧ V.cell? ⟨g, p * 4 + 2, none⟩ = some (.slice ba da ea) ∧ V.cell? ⟨g, p * 4 + 3, none⟩ = some (.int .i64 (ka : Nat)) ∧ V.cell? ⟨g, r * 4, none⟩ = some (.bool mb) ∧ V.cell? ⟨g, r * 4 + 1, none⟩ = some (.slice ab nb cb) ∧ V.cell? ⟨g, r * 4 + 2, none⟩ = some (.slice bb db eb) ∧ V.cell? ⟨g, r * 4 + 3, none⟩ = some (.int .i64 (kb : Nat))) := fun V hV =>
       ⟨(hV.cell (p := ⟨g, p * 4, none⟩) hg1).trans k0, (hV.cell (p := ⟨g, p * 4 + 1, none⟩) hg1).trans k1, (hV.cell (p := ⟨g, p * 4 + 2, none⟩) hg1).trans k2, (hV.cell (p := ⟨g, p * 4 + 3, none⟩) hg1).trans k3, (hV.cell (p := ⟨g, r * 4, none⟩) hg1).trans l0, (hV.cell (p := ⟨g, r * 4 + 1, none⟩) hg1).trans l1, (hV.cell (p := ⟨g, r * 4 + 2, none⟩) hg1).trans l2, (hV.cell (p := ⟨g, r * 4 + 3, none⟩) hg1).trans l3⟩
      obtain ⟨aq, cq, e9, hJc, hc63⟩ := hBr.out.slice
      have hJc : J ≤ c := by
       injection e9 with e1 e2 e3
       rw [e3]; rw [← e2] at hJc; exact hJc
      have hc9 : c ≤ 9223372036854775807 := by
       injection e9 with e1 e2 e3
       rw [e3]; exact hc63
      have f7 : (r : Int) ≤ (c : Int) := by omega
      have QA := hid hQa; have QB := hid hQb
      have HP2 := hid hp; have HR2 := hid hr; have HJ2 := hid hJ2; have HG0 := hid hg0
      clear hat hbt k0 k1 k2 k3 l0 l1 l2 l3 hQa hQb ia ib i64 ja jb la lb da' db' lma lmb hcz hz hp hr hJ2 hg0 hg1 e9 hJc hc63 hJ hT
      go_wp2_with fail
      refine held_plain [0, 1, 2, 3, 4, 5, 6, 7, 9, 10, 11, 12, 13] 5 (fun V => V.cell? ⟨g, p * 4, none⟩ = some (.bool ma) ∧ V.cell? ⟨g, p * 4 + 1, none⟩ = some (.slice aa na ca) ∧ V.cell? ⟨g, p * 4 + 2, none⟩ = some (.slice ba da ea) ∧ V.cell? ⟨g, p * 4 + 3, none⟩ = some (.int .i64 (ka : Nat)) ∧ V.cell? ⟨g, r * 4, none⟩ = some (.bool mb) ∧ V.cell? ⟨g, r * 4 + 1, none⟩ = some (.slice ab nb cb) ∧ V.cell? ⟨g, r * 4 + 2, none⟩ = some (.slice bb db eb) ∧ V.cell? ⟨g, r * 4 + 3, none⟩ = some (.int .i64 (kb : Nat))) (by kernel_rfl) (by kernel_rfl) (by kernel_rfl) (by kernel_rfl) (KK.out _ (Below.refl _ _).drew) ?_
      iterate 13
       refine ⟨_, rfl, ?_⟩
       apply Exists.intro
       refine ⟨.inl ⟨by rfl, ?_⟩, ?_⟩
       ·(intro W' hW'; obtain ⟨z1, z2, z3, z4, z5, z6, z7, z8⟩ := hW'; go_simp; try (with_reducible rfl))
       (dsimp only [Act.put]; try simp only [List.setIfInBounds_toArray, List.set_cons_zero, List.set_cons_succ])
      refine held_oneW (i := 8) (by kernel_rfl) (by rfl) (by rfl) ?_
      go_wp2_with fail
      refine (PMa _ (QA.out.call (Below.refl _ _).drew)).out.mono ?_; rintro e w6 ⟨⟨v6, rfl, hv6⟩, hb6⟩
      obtain ⟨m6, a6, n6, c6', b6, d6, e6, rfl⟩ := hv6.qv
      have y6 := hid (show Below wr.heap.size wr w6 from (Below.refl _ _).drew.trans hb6)
      have M6 := hid hv6
      clear hb6 hv6
      go_wp2_with fail
      refine ⟨KK.out _ y6.out, ?_⟩
      refine held_oneW (i := 14) (by kernel_rfl) (by rfl) (by rfl) ?_
      go_wp2_with fail
      refine (PMb _ (QB.out.call y6.out)).out.mono ?_; rintro e w7 ⟨⟨v7, rfl, hv7⟩, hb7⟩
      obtain ⟨m7, a7, n7, c7, b7, d7, e7, rfl⟩ := hv7.qv
      have y7 := hid (bnext y6.out hb7)
      have M7 := hid (M6.out.call hb7); have N7 := hid hv7
      clear hb7 hv7
      go_wp2_with fail
      refine ⟨KK.out _ y7.out, ?_⟩
      refine held_oneW (i := 15) (by kernel_rfl) (by rfl) (by rfl) ?_
      go_wp2_with fail
      refine (PCm _ _ _ M7.out N7.out).out.mono ?_; rintro e w8 ⟨rfl, hb8⟩
      have y8 := hid (bnext y7.out hb8)
      have BR8 := hid (hBr.out.call y8.out); have BX8 := hid (hBx.out.trans (y8.out.mono hBx.out.size))
      clear hb8
      by_cases hlt2 : bm (qb, kb) < bm (qa, ka)
      ·have t2 : decide (0 < z) = true := decide_eq_true (HCZ.out.2 hlt2)
       have HT2 := hid (show pv1 (qa + qb, ka + kb) s'.reverse = pv (qs.take (i + 1)) by have h := HT.out; rw [if_pos hlt2] at h; exact h)
       have SM := hid (hSt.out.merge)
       clear hlt2
       go_wp2_with fail
       refine ⟨KK.out _ y8.out, ?_⟩
       refine held_more (is := [16, 17]) (g := 0) (by kernel_rfl) rfl (KK.out _ y8.out) (by kernel_rfl) ?_
       iterate 2
        refine ⟨_, rfl, ?_⟩
        apply Exists.intro
        refine ⟨.inl ⟨by rfl, ?_⟩, ?_⟩
        ·(intro W' hW'; obtain ⟨z1, z2, z3, z4, z5, z6, z7, z8⟩ := hW'; go_simp; try (with_reducible rfl))
        (dsimp only [Act.put]; try simp only [List.setIfInBounds_toArray, List.set_cons_zero, List.set_cons_succ])
       refine wpAnyH_done (by kernel_rfl) ?_ _
       simp only [Only]
       go_wp2_with fail
       refine held_lasts2 9 1 [] [(0, 3), (2, 3), (1, 2), (7, 8), (4, 7), (6, 7), (5, 6)] [0, 1, 2, 3, 4, 5, 6, 7, 8] 0 (fun V => V.cell? ⟨g, r * 4, none⟩ = some (.bool mb) ∧ V.cell? ⟨g, r * 4 + 1, none⟩ = some (.slice ab nb cb) ∧ V.cell? ⟨g, r * 4 + 2, none⟩ = some (.slice bb db eb) ∧ V.cell? ⟨g, r * 4 + 3, none⟩ = some (.int .i64 (kb : Nat))) (by kernel_rfl) (by kernel_rfl) (by kernel_rfl) (by kernel_rfl) (by kernel_rfl) (by kernel_rfl) (by kernel_rfl) (by kernel_rfl) (by kernel_rfl) (by kernel_rfl) (by kernel_rfl) (by kernel_rfl) (by obtain ⟨-, -, -, -, h⟩ := KK.out _ y8.out.drew; exact h) ?_
       iterate 9
        refine ⟨_, rfl, ?_⟩
        apply Exists.intro
        refine ⟨.inl ⟨by rfl, ?_⟩, ?_⟩
        ·(intro W' hW'; obtain ⟨z5, z6, z7, z8⟩ := hW'; go_simp; try (with_reducible rfl))
        (dsimp only [Act.put]; try simp only [List.setIfInBounds_toArray, List.set_cons_zero, List.set_cons_succ])
       refine wpAnyH_done (by kernel_rfl) ?_ _
       simp only [Only, ThenL, List.drop_succ_cons, List.drop_zero]
       go_wp2_with fail
       refine (PMg _ (BR8.out.call (Below.refl _ _).drew) (QB.out.call y8.out.drew)).out.mono ?_; rintro e w9 ⟨rfl, hb9, hg9⟩
       have BX9 := hid ((BX8.out.drew).grown hg9 (by show _ ≤ _; exact BX8.out.size) (fun k e => by injection e with e; have := HG0.out; omega))
       have hset : (s' ++ [(qa, ka)] ++ [(qb, kb)]).set p (qa + qb, ka + kb) = s' ++ [(qa + qb, ka + kb)] ++ [(qb, kb)] := by
        rw [List.append_assoc, List.set_append_right _ _ (by have := HP2.out; omega), HP2.out, Nat.sub_self, List.append_assoc]; rfl
       have h9 : BRow w1.heap.size w9 (.slice (some ⟨g, 0, none⟩) J c) (s' ++ [(qa + qb, ka + kb)] ++ [(qb, kb)]) := by rw [← hset]; exact hb9
       have h10 := h9.cut (m := r) (by simp; have := HP2.out; have := HR2.out; omega)
       rw [List.take_append_of_le_length (by simp; have := HP2.out; have := HR2.out; omega), List.take_of_length_le (by simp; have := HP2.out; have := HR2.out; omega)] at h10
       have BR9 := hid h10
       clear hb9 hg9 hset h9 h10
       go_wp2_with fail
       try simp only [Only]
       try go_wp2_with fail
       go_roundw
       case rel => exact ⟨s', (qa + qb, ka + kb), r, g, c, by have := HP2.out; have := HR2.out; show _ = _; omega, rfl, rfl, HT2, SM, BR9, BX9⟩
       case measure => simp [intOf] <;> (have := HR2.out; have := HJ2.out; omega)
      ·have t2 : decide (0 < z) = false := decide_eq_false fun e => hlt2 (HCZ.out.1 e)
       have PN := hid (show (s' ++ [(qa, ka)] ++ [(qb, kb)]).reverse = pv (qs.take (i + 1)) by
        have h := HT.out
        rw [if_neg hlt2] at h
        rw [← h]; simp)
       clear hlt2
       go_wp2_with fail
       refine ⟨KK.out _ y8.out, ?_⟩
       refine held_more (is := [16, 17]) (g := 0) (by kernel_rfl) rfl (KK.out _ y8.out) (by kernel_rfl) ?_
       iterate 2
        refine ⟨_, rfl, ?_⟩
        apply Exists.intro
        refine ⟨.inl ⟨by rfl, ?_⟩, ?_⟩
        ·(intro W' hW'; obtain ⟨z1, z2, z3, z4, z5, z6, z7, z8⟩ := hW'; go_simp; try (with_reducible rfl))
        (dsimp only [Act.put]; try simp only [List.setIfInBounds_toArray, List.set_cons_zero, List.set_cons_succ])
       refine wpAnyH_done (by kernel_rfl) ?_ _
       simp only [Only]
       go_wp2_with fail
       go_roundw
       case rel => exact ⟨i + 1, s' ++ [(qa, ka)] ++ [(qb, kb)], by go_num, by have := HLT.out; omega, PN, hSt, BR8, BX8⟩
       case measure => simp [intOf] <;> (have := HLT.out; omega)
   ·obtain rfl : i = N := by omega
    have q9 : decide ((i : Int) < (i : Int)) = false := by simp
    have HM := hid (show mnL qs = outL st from mn_is (by rw [hP.out, List.take_of_length_le (by rw [HN.out]; exact Nat.le_refl _)]))
    obtain ⟨x0, hx0⟩ : ∃ b, st[0]? = some b := ⟨_, List.getElem?_eq_getElem (by
     rcases Nat.eq_zero_or_pos st.length with e | e
     ·have h := hS.out.sum
      rw [List.length_eq_zero_iff.1 e] at h
      have := HNN.out.1
      simp at h; omega
     ·exact e)⟩
    obtain ⟨K, hK⟩ : ∃ k, st.length = k := ⟨_, rfl⟩
    have hK0 : 0 < K := by rw [← hK]; exact (List.getElem?_eq_some_iff.1 hx0).1
    have HK := hid hK; have HK64 := hid (show K ≤ 64 by have := hS.out.len; have := HNN.out; omega)
    obtain ⟨g, c6, rfl, hgB, hg, hKc, hc63, -⟩ := hO.out.nz hK hK0
    have HOL := hid (outL_len hS.out)
    have HLim := hid (fun (q : Rat) (hq : q ∈ outL st) => show Lim q by
     unfold outL at hq
     obtain ⟨b, hb, hq⟩ := List.mem_flatMap.1 hq
     rw [List.eq_of_mem_replicate hq]
     exact Lim.of (bm_dig hS.out HNN.out.2 hb) (by omega))
    have HWR := fun V v h hV => hid (s_write V wr.heap.size v (outL st) h (by rw [HOL.out]; exact HNN.out.2) HLim.out hV)
    have HBm := hid (bnext y1.out hB.out)
    obtain ⟨wp, hwp⟩ : ∃ q, q = wr := ⟨_, rfl⟩
    subst hwp
    clear hlt hi' hx0 hK hK0 hgB hP
    go_wp2_with fail
    go_loopw [10, 12, 71] (fun s10 s12 s71 wx => ∃ p : Nat, s71 = .int .i64 (p : Nat) ∧ p ≤ K ∧ Hid (VRow wp.heap.size wx s10 (outL (st.take p))) ∧ Hid (Below wp.heap.size wp wx)) (fun s10 s12 s71 wx => K - (intOf s71).toNat)
    case atStart => exact ⟨0, rfl, Nat.zero_le _, VRow.nil _ _, Below.refl _ _⟩
    case round =>
     obtain ⟨p, e71, hp, hV, hX⟩ := hrel
     obtain ⟨s10, hs10⟩ : ∃ x, x = u10 := ⟨_, rfl⟩
     subst hs10
     subst e71
     by_cases hltp : p < K
     ·obtain ⟨b, hb⟩ : ∃ b, st[p]? = some b := ⟨_, List.getElem?_eq_getElem (by rw [HK.out]; exact hltp)⟩
      obtain ⟨mb, ab, nb, cb, bb, db, eb, -, -, l0, l1, l2, l3, hQb⟩ := (hO.out.call hX.out).at hb
      have hbm := List.mem_of_getElem? hb
      have ib := hS.out.all b hbm
      have jb := hS.out.le hbm
      have lb := hS.out.lim HNN.out.2 hbm
      have HNX := hid (outL_take hb)
      obtain ⟨qb, kb⟩ := b
      dsimp only at l3 hQb ib jb lb HNX
      have hkb64 : kb ≤ 64 := by have := HNN.out; omega
      have PMb := fun V hq => hid (s_mean V mb ab nb cb bb db eb qb kb hq ib.1 hkb64 lb)
      have A1 := hid ((Below.refl wr.heap.size wr).alloc (Nat.le_refl _) (.cells #[.bool mb, .slice ab nb cb, .slice bb db eb, .int .i64 (kb : Nat)] 73))
      have X1 := hid (Blk.new wr #[.bool mb, .slice ab nb cb, .slice bb db eb, .int .i64 (kb : Nat)] 73)
      have QB := hid (hQb.call A1.out)
      have V1 := hid (hV.out.call A1.out)
      have B1 := hid (hX.out.trans (A1.out.mono hX.out.size))
      have KB := hid (show 1 ≤ kb ∧ kb ≤ 64 from ⟨ib.1, hkb64⟩)
      have HLTP := hid hltp
      have f1 : (0 : Int) ≤ (p : Int) := by omega
      have f2 : (p : Int) < (K : Int) := by omega
      have wi : IntKind.i64.wrap ((p : Int) + 1) = ((p + 1 : Nat) : Int) := by have := HK64.out; rw [IntWalk.i64_in _ ⟨by omega, by omega⟩]; omega
      obtain ⟨W, hW⟩ : ∃ W, wr.alloc (.cells #[.bool mb, .slice ab nb cb, .slice bb db eb, .int .i64 (kb : Nat)] 73) = W := ⟨_, rfl⟩
      rw [hW] at A1 X1 QB V1 B1
      have HVL := hid (show (outL (st.take p)).length ≤ 64 by
       have h1 : (outL (st.take (p + 1))).length ≤ (outL st).length := by
        have h2 : outL st = outL (st.take (p + 1)) ++ outL (st.drop (p + 1)) := by unfold outL; rw [← List.flatMap_append, List.take_append_drop]
        rw [h2, List.length_append]; omega
       rw [HNX.out, List.length_append, HOL.out] at h1
       have := HNN.out
       omega)
      have KK : Hid (∀ V, Below W.heap.size W V → V.cell? ⟨wr.heap.size, 0, none⟩ = some (.bool mb) ∧ V.cell? ⟨wr.heap.size, 1, none⟩ = some (.slice ab nb cb) ∧ V.cell? ⟨wr.heap.size, 2, none⟩ = some (.slice bb db eb) ∧ V.cell? ⟨wr.heap.size, 3, none⟩ = some (.int .i64 (kb : Nat))) := fun V hV => ⟨(X1.out.call hV).cell 0, (X1.out.call hV).cell 1, (X1.out.call hV).cell 2, (X1.out.call hV).cell 3⟩
      have GW := hid (show wr.heap.size < W.heap.size from X1.out.lt)
      have OWN := hid (show ∀ go, s10.ownBlock = some go → go < wr.heap.size from fun go hgo => by
       obtain ⟨cs, hk, -⟩ := hV.out.ex
       exact (hk.own.lt go hgo).2)
      clear hb hbm ib jb lb hkb64 hQb hltp hp
      go_wp2_with fail
      try rw [hW]
      clear hW l0 l1 l2 l3
      refine held_plain [0, 1, 4, 5] 5 (fun V => V.cell? ⟨wr.heap.size, 0, none⟩ = some (.bool mb) ∧ V.cell? ⟨wr.heap.size, 1, none⟩ = some (.slice ab nb cb) ∧ V.cell? ⟨wr.heap.size, 2, none⟩ = some (.slice bb db eb) ∧ V.cell? ⟨wr.heap.size, 3, none⟩ = some (.int .i64 (kb : Nat))) (by kernel_rfl) (by kernel_rfl) (by kernel_rfl) (by kernel_rfl) (KK.out _ (Below.refl _ _).drew) ?_
      iterate 4
       refine ⟨_, rfl, ?_⟩
       apply Exists.intro
       refine ⟨.inl ⟨by rfl, ?_⟩, ?_⟩
       ·(intro W' hW'; obtain ⟨z1, z2, z3, z4⟩ := hW'; go_simp; try (with_reducible rfl))
       (dsimp only [Act.put]; try simp only [List.setIfInBounds_toArray, List.set_cons_zero, List.set_cons_succ])
      refine held_one (i := 2) (by kernel_rfl) (by rfl) (by rfl) ?_
      go_wp2_with fail
      refine (PMb _ (QB.out.call (Below.refl _ _).drew)).out.mono ?_; rintro e w6 ⟨⟨v6, rfl, hv6⟩, hb6⟩
      obtain ⟨m6, a6, n6, c6', b6, d6, e6, rfl⟩ := hv6.qv
      have y6 := hid (show Below W.heap.size W w6 from (Below.refl _ _).drew.trans hb6)
      have M6 := hid hv6
      clear hb6 hv6
      go_wp2_with fail
      refine ⟨KK.out _ y6.out, ?_⟩
      refine held_one (i := 3) (by kernel_rfl) (by rfl) (by rfl) ?_
      go_wp2_with fail
      have A7 := hid ((Below.refl w6.heap.size w6).alloc (Nat.le_refl _) (.cells #[.bool m6, .slice a6 n6 c6', .slice b6 d6 e6] 57))
      have Z7 := hid (Blk.new w6 #[.bool m6, .slice a6 n6 c6', .slice b6 d6 e6] 57)
      have M7 := hid (M6.out.call A7.out)
      have y7 := hid (bnext y6.out A7.out)
      refine ⟨KK.out _ y7.out, ?_⟩
      refine held_one (i := 6) (by kernel_rfl) (by rfl) (by rfl) ?_
      go_wp2_with fail
      refine (s_RepF _ _ kb _ _ _ KB.out.1 (by have := KB.out; omega) Z7.out rfl rfl rfl).mono ?_; rintro e w8 ⟨rfl, hb8, hy8⟩
      have y8 := hid (bnext y7.out hy8)
      obtain ⟨cr, hcr, hkr, hqr⟩ := rp_row (B := w6.heap.size) hb8 (by simp) (by have := KB.out; omega) (M7.out.call hy8)
      have HKR := hid hkr; have HQR := hid hqr
      have LCR := hid (show cr.length = kb by rw [hcr, List.length_replicate])
      obtain ⟨cs, hk, hQL⟩ := (V1.out.call y8.out).ex
      have HKV := hid hk; have HQV := hid hQL
      have LCS := hid (show cs.length = (outL (st.take p)).length from hQL.len)
      have B8 := hid (B1.out.trans (y8.out.mono B1.out.size))
      have HC8 := hid hqr.cells
      have SRC := hid (show ∀ j u, cr.flatten[j]? = some u → w8.cell? ((⟨w6.heap.size + 1, 0, none⟩ : Addr).add j) = some u from fun j u hu => by
       have h := hkr.own.cells (g := _) rfl j u hu
       simpa using h)
      clear hb8 hy8 hcr hkr hqr hk hQL
      go_wp2_with fail
      refine ⟨KK.out _ y8.out, ?_⟩
      refine held_one (i := 7) (by kernel_rfl) (by rfl) (by rfl) ?_
      refine wpList_append_krow _ .u64 rfl (.tmp 75) (.tmp 81) 53 rfl wp.heap.size 57 i0 (.agg #[.bool false, .slice none 0 0, .slice none 0 0]) 3 56 Tryz.underlying53 hi hz0 hz1 hz2 rfl (by decide) noz_fr _ cs rfl HKV.out ⟨w6.heap.size + 1, 0, none⟩ kb kb cr rfl LCR.out HKR.out.all SRC.out HC8.out.1 HC8.out.2 (by rw [LCS.out]; have := HVL.out; have := KB.out; unfold maxLen; omega) (by rw [LCS.out]; have := HVL.out; have := KB.out; omega) B8.out.size ?_
      intro v' w9 hown hgrow hkeep hat
      have V9 := hid (show VRow wp.heap.size w9 v' (outL (st.take (p + 1))) by rw [HNX.out]; exact ⟨cs ++ cr, hown, (HQV.out.append HQR.out).keep hkeep⟩)
      have B9 := hid (krow_below HKV.out B8.out hgrow)
      have hblk := hgrow.block wr.heap.size (by have := GW.out; have := y8.out.size; omega) (fun e => by have := OWN.out _ e.symm; omega)
      have KS : Hid (w9.cell? ⟨wr.heap.size, 0, none⟩ = some (.bool mb) ∧ w9.cell? ⟨wr.heap.size, 1, none⟩ = some (.slice ab nb cb) ∧ w9.cell? ⟨wr.heap.size, 2, none⟩ = some (.slice bb db eb) ∧ w9.cell? ⟨wr.heap.size, 3, none⟩ = some (.int .i64 (kb : Nat))) := by
       obtain ⟨x1, x2, x3, x4⟩ := KK.out _ y8.out
       exact ⟨(World.cell?_of_block hblk).trans x1, (World.cell?_of_block hblk).trans x2, (World.cell?_of_block hblk).trans x3, (World.cell?_of_block hblk).trans x4⟩
      clear hown hgrow hkeep hat hblk
      go_wp2_with fail
      refine ⟨KS.out, ?_⟩
      refine held_more (is := [8]) (g := 0) (by kernel_rfl) rfl KS.out (by kernel_rfl) ?_
      iterate 1
       refine ⟨_, rfl, ?_⟩
       apply Exists.intro
       refine ⟨.inl ⟨by rfl, ?_⟩, ?_⟩
       ·(intro W' hW'; obtain ⟨z1, z2, z3, z4⟩ := hW'; go_simp; try (with_reducible rfl))
       (dsimp only [Act.put]; try simp only [List.setIfInBounds_toArray, List.set_cons_zero, List.set_cons_succ])
      refine wpAnyH_done (by kernel_rfl) ?_ _
      simp only [Only]
      go_wp2_with fail
      go_roundw
      case rel => exact ⟨p + 1, by go_num, by have := HLTP.out; omega, V9, B9⟩
      case measure => simp [intOf] <;> (have := HLTP.out; omega)
     ·obtain rfl : p = K := by omega
      have q8 : decide ((p : Int) < (p : Int)) = false := by simp
      have RE := hid (show VRow wp.heap.size wr s10 (outL st) by have h := hV.out; rw [List.take_of_length_le (by rw [HK.out]; exact Nat.le_refl _)] at h; exact h)
      have BM := hid (bnext HBm.out hX.out)
      clear hltp hp hV
      go_wp2_with fail
      refine (HWR _ _ RE.out (HL.out.call BM.out)).out.mono ?_; rintro e w8 ⟨⟨u, rfl, hu⟩, hb8⟩
      have y8 := hid (bnext BM.out hb8)
      have U8 := hid hu
      clear hb8 hu
      go_wp2_with fail
      go_ret2
      exact ⟨⟨_, by rw [HM.out]; rfl, by rw [HM.out]; exact U8.out⟩, y8.out⟩
theorem k_SameS (w : World) (v u : Value) (L M : List ByteArray) (hv : Row w v (strs L)) (hu : Row w u (strs M)) :
 Calls Tryz.prog 16 #[v, u] w fun e w' => e = .returned (.bool (decide (L = M))) ∧ Below w.heap.size w w' := by
 obtain ⟨a, c, rfl, h1, h2, h3⟩ := hv.openS
 obtain ⟨a', c', rfl, h1', h2', h3'⟩ := hu.openS
 obtain ⟨n, hn⟩ : ∃ n, L.length = n := ⟨_, rfl⟩
 obtain ⟨m, hm⟩ : ∃ n, M.length = n := ⟨_, rfl⟩
 rw [hn] at h1 ⊢
 rw [hm] at h1' ⊢
 have H3 := hid h3; have H3' := hid h3'; have HN := hid hn; have HM := hid hm
 clear hv hu h3 h3'
 by_cases hnm : n = m
 ·subst hnm
  have q0 : ((n : Int) != (n : Int)) = false := by simp
  clear hn hm
  go_enter Tryz.func16, Tryz.ntmps16
  go_wp2_with fail
  go_loopw [5] (fun ii wr => ∃ i : Nat, ii = .int .i64 (i : Nat) ∧ i ≤ n ∧ Hid (∀ j, j < i → L[j]? = M[j]?) ∧ Hid (Below w.heap.size w wr)) (fun ii wr => n - (intOf ii).toNat)
  case atStart => exact ⟨0, rfl, Nat.zero_le _, fun j hj => absurd hj (by omega), Below.refl _ _⟩
  case round =>
   obtain ⟨i, rfl, hi, hI, hB⟩ := hrel
   by_cases hlt : i < n
   ·obtain ⟨x, hx⟩ : ∃ x, L[i]? = some x := ⟨_, List.getElem?_eq_getElem (by rw [HN.out]; exact hlt)⟩
    obtain ⟨y, hy⟩ : ∃ x, M[i]? = some x := ⟨_, List.getElem?_eq_getElem (by rw [HM.out]; exact hlt)⟩
    obtain ⟨g, o, rfl, hg, k1⟩ := H3.out i x hx
    obtain ⟨g', o', rfl, hg', k1'⟩ := H3'.out i y hy
    have HX := hid hx; have HY := hid hy
    have m1 := (hB.out.cell (p := ⟨g, o + i, none⟩) hg).trans k1
    have m3 := (hB.out.cell (p := ⟨g', o' + i, none⟩) hg').trans k1'
    have b1 : (0 : Int) ≤ (i : Int) := by omega
    have b2 : (i : Int) < (n : Int) := by omega
    have wi : IntKind.i64.wrap ((i : Int) + 1) = (i : Int) + 1 := by rw [IntWalk.i64_in _ ⟨by omega, by omega⟩]
    clear k1 k1' hx hy hg hg'
    by_cases he1 : x = y
    ·subst he1
     go_wp2_with fail
     refine held_plain [0, 1, 2, 3, 4, 5, 6, 7, 8] 0 (fun w' => w'.cell? ⟨g, o + i, none⟩ = some (.string x) ∧ w'.cell? ⟨g', o' + i, none⟩ = some (.string x)) (by kernel_rfl) (by kernel_rfl) (by kernel_rfl) (by kernel_rfl) ⟨m1, m3⟩ ?_
     iterate 9
      refine ⟨_, rfl, ?_⟩
      apply Exists.intro
      refine ⟨.inl ⟨by rfl, ?_⟩, ?_⟩
      ·(intro W' hW'; obtain ⟨q1, q2⟩ := hW'; go_simp; try (with_reducible rfl))
      (dsimp only [Act.put]; try simp only [List.setIfInBounds_toArray, List.set_cons_zero, List.set_cons_succ])
     refine wpAnyH_done (by kernel_rfl) ?_ _
     simp only [Only]
     go_wp2_with fail
     go_roundw
     case rel => exact ⟨i + 1, rfl, by omega, fun j hj => by
      rcases Nat.lt_or_ge j i with h | h
      ·exact hI.out j h
      ·obtain rfl : j = i := by omega
       rw [HX.out, HY.out], hB.out.drew⟩
     case measure => simp [intOf] <;> omega
    ·have n1 : (x.toList == y.toList) = false := by rw [beq_eq_false_iff_ne]; exact ne_tl he1
     have hne : decide (L = M) = false := by
      rw [decide_eq_false_iff_not]; rintro rfl
      have := HX.out.symm.trans HY.out
      simp only [Option.some.injEq] at this
      exact he1 this
     have HNE := hid hne
     clear hne he1
     go_wp2_with fail
     refine held_plain [0, 1, 2, 3, 4, 5, 6, 7, 8] 0 (fun w' => w'.cell? ⟨g, o + i, none⟩ = some (.string x) ∧ w'.cell? ⟨g', o' + i, none⟩ = some (.string y)) (by kernel_rfl) (by kernel_rfl) (by kernel_rfl) (by kernel_rfl) ⟨m1, m3⟩ ?_
     iterate 9
      refine ⟨_, rfl, ?_⟩
      apply Exists.intro
      refine ⟨.inl ⟨by rfl, ?_⟩, ?_⟩
      ·(intro W' hW'; obtain ⟨q1, q2⟩ := hW'; go_simp; try (with_reducible rfl))
      (dsimp only [Act.put]; try simp only [List.setIfInBounds_toArray, List.set_cons_zero, List.set_cons_succ])
     refine wpAnyH_done (by kernel_rfl) ?_ _
     simp only [Only]
     go_wp2_with fail
     go_ret
     exact ⟨by rw [HNE.out]; rfl, hB.out.drew⟩
   ·obtain rfl : i = n := by omega
    have hE : L = M := by
     apply List.ext_getElem?
     intro j
     by_cases hj : j < i
     ·exact hI.out j hj
     ·rw [List.getElem?_eq_none (by rw [HN.out]; omega), List.getElem?_eq_none (by rw [HM.out]; omega)]
    have HE := hid hE
    have q1 : decide ((i : Int) < (i : Int)) = false := by simp
    clear hE
    go_wp2_with fail
    go_ret
    exact ⟨by rw [decide_eq_true HE.out]; rfl, hB.out⟩
 ·have hE : decide (L = M) = false := by rw [decide_eq_false_iff_not]; rintro rfl; exact hnm (hn.symm.trans hm)
  have HE := hid hE
  have q0 : ((n : Int) != (m : Int)) = true := by simp; omega
  clear hn hm hE
  go_enter Tryz.func16, Tryz.ntmps16
  go_wp2_with fail
  go_ret
  exact ⟨by rw [HE.out]; rfl, Below.refl _ _⟩
theorem k_SameI (w : World) (v u : Value) (L M : List Int) (hv : Row w v (zs L)) (hu : Row w u (zs M)) :
 Calls Tryz.prog 30 #[v, u] w fun e w' => e = .returned (.bool (decide (L = M))) ∧ Below w.heap.size w w' := by
 obtain ⟨a, c, rfl, h1, h2, h3⟩ := hv.openZ
 obtain ⟨a', c', rfl, h1', h2', h3'⟩ := hu.openZ
 obtain ⟨n, hn⟩ : ∃ n, L.length = n := ⟨_, rfl⟩
 obtain ⟨m, hm⟩ : ∃ n, M.length = n := ⟨_, rfl⟩
 rw [hn] at h1 ⊢
 rw [hm] at h1' ⊢
 have H3 := hid h3; have H3' := hid h3'; have HN := hid hn; have HM := hid hm
 clear hv hu h3 h3'
 by_cases hnm : n = m
 ·subst hnm
  have q0 : ((n : Int) != (n : Int)) = false := by simp
  clear hn hm
  go_enter Tryz.func30, Tryz.ntmps30
  go_wp2_with fail
  go_loopw [5] (fun ii wr => ∃ i : Nat, ii = .int .i64 (i : Nat) ∧ i ≤ n ∧ Hid (∀ j, j < i → L[j]? = M[j]?) ∧ Hid (Below w.heap.size w wr)) (fun ii wr => n - (intOf ii).toNat)
  case atStart => exact ⟨0, rfl, Nat.zero_le _, fun j hj => absurd hj (by omega), Below.refl _ _⟩
  case round =>
   obtain ⟨i, rfl, hi, hI, hB⟩ := hrel
   by_cases hlt : i < n
   ·obtain ⟨x, hx⟩ : ∃ x, L[i]? = some x := ⟨_, List.getElem?_eq_getElem (by rw [HN.out]; exact hlt)⟩
    obtain ⟨y, hy⟩ : ∃ x, M[i]? = some x := ⟨_, List.getElem?_eq_getElem (by rw [HM.out]; exact hlt)⟩
    obtain ⟨g, o, rfl, hg, k1⟩ := H3.out i x hx
    obtain ⟨g', o', rfl, hg', k1'⟩ := H3'.out i y hy
    have HX := hid hx; have HY := hid hy
    have m1 := (hB.out.cell (p := ⟨g, o + i, none⟩) hg).trans k1
    have m3 := (hB.out.cell (p := ⟨g', o' + i, none⟩) hg').trans k1'
    have b1 : (0 : Int) ≤ (i : Int) := by omega
    have b2 : (i : Int) < (n : Int) := by omega
    have wi : IntKind.i64.wrap ((i : Int) + 1) = (i : Int) + 1 := by rw [IntWalk.i64_in _ ⟨by omega, by omega⟩]
    clear k1 k1' hx hy hg hg'
    by_cases he1 : x = y
    ·subst he1
     have n1 : (x != x) = false := by simp
     go_wp2_with fail
     refine held_plain [0, 1, 2, 3, 4, 5, 6, 7, 8] 0 (fun w' => w'.cell? ⟨g, o + i, none⟩ = some (.int .i64 x) ∧ w'.cell? ⟨g', o' + i, none⟩ = some (.int .i64 x)) (by kernel_rfl) (by kernel_rfl) (by kernel_rfl) (by kernel_rfl) ⟨m1, m3⟩ ?_
     iterate 9
      refine ⟨_, rfl, ?_⟩
      apply Exists.intro
      refine ⟨.inl ⟨by rfl, ?_⟩, ?_⟩
      ·(intro W' hW'; obtain ⟨q1, q2⟩ := hW'; go_simp; try (with_reducible rfl))
      (dsimp only [Act.put]; try simp only [List.setIfInBounds_toArray, List.set_cons_zero, List.set_cons_succ])
     refine wpAnyH_done (by kernel_rfl) ?_ _
     simp only [Only]
     go_wp2_with fail
     go_roundw
     case rel => exact ⟨i + 1, rfl, by omega, fun j hj => by
      rcases Nat.lt_or_ge j i with h | h
      ·exact hI.out j h
      ·obtain rfl : j = i := by omega
       rw [HX.out, HY.out], hB.out.drew⟩
     case measure => simp [intOf] <;> omega
    ·have n1 : (x != y) = true := by simpa using he1
     have hne : decide (L = M) = false := by
      rw [decide_eq_false_iff_not]; rintro rfl
      have := HX.out.symm.trans HY.out
      simp only [Option.some.injEq] at this
      exact he1 this
     have HNE := hid hne
     clear hne he1
     go_wp2_with fail
     refine held_plain [0, 1, 2, 3, 4, 5, 6, 7, 8] 0 (fun w' => w'.cell? ⟨g, o + i, none⟩ = some (.int .i64 x) ∧ w'.cell? ⟨g', o' + i, none⟩ = some (.int .i64 y)) (by kernel_rfl) (by kernel_rfl) (by kernel_rfl) (by kernel_rfl) ⟨m1, m3⟩ ?_
     iterate 9
      refine ⟨_, rfl, ?_⟩
      apply Exists.intro
      refine ⟨.inl ⟨by rfl, ?_⟩, ?_⟩
      ·(intro W' hW'; obtain ⟨q1, q2⟩ := hW'; go_simp; try (with_reducible rfl))
      (dsimp only [Act.put]; try simp only [List.setIfInBounds_toArray, List.set_cons_zero, List.set_cons_succ])
     refine wpAnyH_done (by kernel_rfl) ?_ _
     simp only [Only]
     go_wp2_with fail
     go_ret
     exact ⟨by rw [HNE.out]; rfl, hB.out.drew⟩
   ·obtain rfl : i = n := by omega
    have hE : L = M := by
     apply List.ext_getElem?
     intro j
     by_cases hj : j < i
     ·exact hI.out j hj
     ·rw [List.getElem?_eq_none (by rw [HN.out]; omega), List.getElem?_eq_none (by rw [HM.out]; omega)]
    have HE := hid hE
    have q1 : decide ((i : Int) < (i : Int)) = false := by simp
    clear hE
    go_wp2_with fail
    go_ret
    exact ⟨by rw [decide_eq_true HE.out]; rfl, hB.out⟩
 ·have hE : decide (L = M) = false := by rw [decide_eq_false_iff_not]; rintro rfl; exact hnm (hn.symm.trans hm)
  have HE := hid hE
  have q0 : ((n : Int) != (m : Int)) = true := by simp; omega
  clear hn hm hE
  go_enter Tryz.func30, Tryz.ntmps30
  go_wp2_with fail
  go_ret
  exact ⟨by rw [HE.out]; rfl, Below.refl _ _⟩
theorem rowN_lit (w : World) (L : List ByteArray) (cs : Array Value) (n b : Nat) (hc : cs = (strs L).toArray) (hb : w.heap.size = b) (hn : L.length = n) (hL : n ≤ 1000) : Row (w.alloc (.cells cs 23)) (.slice (some ⟨b, 0, none⟩) n n) (strs L) := by
 subst hc hb
 exact Row.of_blk (Blk.new w _ _) (by rw [strs_length]; exact hn) (by unfold maxLen; omega) (fun i x h => by rw [List.getElem?_toArray]; exact h) (Nat.le_refl _) (by unfold maxLen; omega)
theorem rowI_lit (w : World) (L : List Int) (cs : Array Value) (n b : Nat) (hc : cs = (zs L).toArray) (hb : w.heap.size = b) (hn : L.length = n) (hL : n ≤ 1000) : Row (w.alloc (.cells cs 3)) (.slice (some ⟨b, 0, none⟩) n n) (zs L) := by
 subst hc hb
 exact Row.of_blk (Blk.new w _ _) (by rw [zs_length]; exact hn) (by unfold maxLen; omega) (fun i x h => by rw [List.getElem?_toArray]; exact h) (Nat.le_refl _) (by unfold maxLen; omega)
theorem w_lives29 (w : World) (hL : Lay w) :
 Calls Tryz.prog 9 #[] w fun e w' => e = .returned (.bool true) ∧ Below w.heap.size w w' := by
 have HL := hid hL
 have PX := fun V v hv hV => hid (s_Simplex V v [⟨#[51]⟩, ⟨#[45, 49]⟩, ⟨#[49]⟩] ⟨#[51]⟩ hv (by intro s hs; simp at hs; rcases hs with rfl | rfl | rfl <;> decide) (by decide) hV (by decide))
 rw [ls_sx, ls_sxL] at PX
 have A1 := hid ((Below.refl w.heap.size w).alloc (Nat.le_refl _) (.cells #[.string ⟨#[51]⟩, .string ⟨#[45, 49]⟩, .string ⟨#[49]⟩] 23))
 have R1 := hid (rowN_lit w [⟨#[51]⟩, ⟨#[45, 49]⟩, ⟨#[49]⟩] _ 3 w.heap.size rfl rfl rfl (by omega))
 have PM := fun V v hv hV => hid (s_Monotone V v [⟨#[49]⟩, ⟨#[51]⟩, ⟨#[50]⟩, ⟨#[50]⟩, ⟨#[53]⟩] hv (by intro s hs; simp at hs; rcases hs with rfl | rfl | rfl | rfl <;> decide) hV)
 rw [ls_mn, ls_mnL] at PM
 have PR := fun V v hv hV => hid (s_Round V v [⟨#[52, 47, 51]⟩, ⟨#[52, 47, 51]⟩, ⟨#[52, 47, 51]⟩] hv (by intro s hs; simp at hs; rcases hs with rfl <;> decide) (by decide) hV)
 rw [ls_rd, ls_rdL] at PR
 have PI := fun V u v hu hv => hid (k_SameI V u v [2, 1, 1] [2, 1, 1] hu hv)
 have PS1 := fun V u v hu hv => hid (k_SameS V u v [⟨#[53, 47, 50]⟩, ⟨#[48]⟩, ⟨#[49, 47, 50]⟩] [⟨#[53, 47, 50]⟩, ⟨#[48]⟩, ⟨#[49, 47, 50]⟩] hu hv)
 have PS2 := fun V u v hu hv => hid (k_SameS V u v [⟨#[49]⟩, ⟨#[55, 47, 51]⟩, ⟨#[55, 47, 51]⟩, ⟨#[55, 47, 51]⟩, ⟨#[53]⟩] [⟨#[49]⟩, ⟨#[55, 47, 51]⟩, ⟨#[55, 47, 51]⟩, ⟨#[55, 47, 51]⟩, ⟨#[53]⟩] hu hv)
 rw [decide_eq_true rfl] at PI PS1 PS2
 clear hL
 go_enter Tryz.func9, Tryz.ntmps9
 go_wp2_with fail
 refine (PX _ _ R1.out (HL.out.call A1.out)).out.mono ?_; rintro e w1 ⟨⟨u1, rfl, hu1⟩, hb1⟩
 have y1 := hid (bnext A1.out hb1)
 have U1 := hid hu1
 obtain ⟨a1, k1, rfl, -, -, -⟩ := hu1.openS
 clear hb1 hu1
 have A2 := hid ((Below.refl w1.heap.size w1).alloc (Nat.le_refl _) (.cells #[.string ⟨#[49]⟩, .string ⟨#[51]⟩, .string ⟨#[50]⟩, .string ⟨#[50]⟩, .string ⟨#[53]⟩] 23))
 have R2 := hid (rowN_lit w1 [⟨#[49]⟩, ⟨#[51]⟩, ⟨#[50]⟩, ⟨#[50]⟩, ⟨#[53]⟩] _ 5 w1.heap.size rfl rfl rfl (by omega))
 go_wp2_with fail
 refine (PM _ _ R2.out (HL.out.call (bnext y1.out A2.out))).out.mono ?_; rintro e w2 ⟨⟨u2, rfl, hu2⟩, hb2⟩
 have b2 := hid (bnext A2.out hb2)
 have y2 := hid (bnext y1.out b2.out)
 have U1b := hid (U1.out.call b2.out)
 have U2 := hid hu2
 obtain ⟨a2, k2, rfl, -, -, -⟩ := hu2.openS
 clear hb2 hu2
 have A3 := hid ((Below.refl w2.heap.size w2).alloc (Nat.le_refl _) (.cells #[.string ⟨#[52, 47, 51]⟩, .string ⟨#[52, 47, 51]⟩, .string ⟨#[52, 47, 51]⟩] 23))
 have R3 := hid (rowN_lit w2 [⟨#[52, 47, 51]⟩, ⟨#[52, 47, 51]⟩, ⟨#[52, 47, 51]⟩] _ 3 w2.heap.size rfl rfl rfl (by omega))
 go_wp2_with fail
 refine (PR _ _ R3.out (HL.out.call (bnext y2.out A3.out))).out.mono ?_; rintro e w3 ⟨⟨u3, rfl, hu3⟩, hb3⟩
 have b3 := hid (bnext A3.out hb3)
 have y3 := hid (bnext y2.out b3.out)
 have U1c := hid (U1b.out.call b3.out)
 have U2c := hid (U2.out.call b3.out)
 have U3 := hid hu3
 obtain ⟨a3, k3, rfl, -, -, -⟩ := hu3.openZ
 clear hb3 hu3
 have A4 := hid ((Below.refl w3.heap.size w3).alloc (Nat.le_refl _) (.cells #[.string ⟨#[53, 47, 50]⟩, .string ⟨#[48]⟩, .string ⟨#[49, 47, 50]⟩] 23))
 have R4 := hid (rowN_lit w3 [⟨#[53, 47, 50]⟩, ⟨#[48]⟩, ⟨#[49, 47, 50]⟩] _ 3 w3.heap.size rfl rfl rfl (by omega))
 go_wp2_with fail
 refine (PS1 _ _ _ (U1c.out.call A4.out) R4.out).out.mono ?_; rintro e w4 ⟨rfl, hb4⟩
 have b4 := hid (bnext A4.out hb4)
 have y4 := hid (bnext y3.out b4.out)
 have U2d := hid (U2c.out.call b4.out)
 have U3d := hid (U3.out.call b4.out)
 clear hb4
 have A5 := hid ((Below.refl w4.heap.size w4).alloc (Nat.le_refl _) (.cells #[.string ⟨#[49]⟩, .string ⟨#[55, 47, 51]⟩, .string ⟨#[55, 47, 51]⟩, .string ⟨#[55, 47, 51]⟩, .string ⟨#[53]⟩] 23))
 have R5 := hid (rowN_lit w4 [⟨#[49]⟩, ⟨#[55, 47, 51]⟩, ⟨#[55, 47, 51]⟩, ⟨#[55, 47, 51]⟩, ⟨#[53]⟩] _ 5 w4.heap.size rfl rfl rfl (by omega))
 go_wp2_with fail
 refine (PS2 _ _ _ (U2d.out.call A5.out) R5.out).out.mono ?_; rintro e w5 ⟨rfl, hb5⟩
 have b5 := hid (bnext A5.out hb5)
 have y5 := hid (bnext y4.out b5.out)
 have U3e := hid (U3d.out.call b5.out)
 clear hb5
 have A6 := hid ((Below.refl w5.heap.size w5).alloc (Nat.le_refl _) (.cells #[.int .i64 2, .int .i64 1, .int .i64 1] 3))
 have R6 := hid (rowI_lit w5 [2, 1, 1] _ 3 w5.heap.size rfl rfl rfl (by omega))
 go_wp2_with fail
 refine (PI _ _ _ (U3e.out.call A6.out) R6.out).out.mono ?_; rintro e w6 ⟨rfl, hb6⟩
 go_wp2_with fail
 go_ret
 exact ⟨rfl, bnext y5.out (bnext A6.out hb6)⟩
theorem w_SmoothNames (w : World) (hL : Lay w) :
 Calls Tryz.prog 6 #[] w fun e w' => e = .returned (.bool true) ∧ Below w.heap.size w w' := by
 have HL := hid hL
 have PL := hid (w_lives29 w hL)
 have Pa := fun V v hv hV => hid (s_Consistent V v [⟨#[49]⟩, ⟨#[50]⟩, ⟨#[51]⟩] ⟨#[57]⟩ hv (by intro s hs; simp at hs; rcases hs with rfl | rfl | rfl <;> decide) (by decide) hV)
 rw [nm_a] at Pa
 obtain ⟨Ea, hE⟩ : ∃ x, cnE [⟨#[49]⟩, ⟨#[50]⟩, ⟨#[51]⟩] ⟨#[57]⟩ = x := ⟨_, rfl⟩
 rw [hE] at Pa
 clear hE
 have Pb := fun V v hv hV => hid (s_Consistent V v [⟨#[49]⟩] ⟨#[49, 47, 50]⟩ hv (by intro s hs; simp at hs; subst hs; decide) (by decide) hV)
 rw [nm_b] at Pb
 obtain ⟨Eb, hE⟩ : ∃ x, cnE [⟨#[49]⟩] ⟨#[49, 47, 50]⟩ = x := ⟨_, rfl⟩
 rw [hE] at Pb
 clear hE
 have Pc := fun V v hv hV => hid (s_Simplex V v [⟨#[45, 49]⟩, ⟨#[45, 49]⟩] ⟨#[48]⟩ hv (by intro s hs; simp at hs; subst hs; decide) (by decide) hV (by decide))
 rw [nm_c] at Pc
 obtain ⟨Ec, hE⟩ : ∃ x, smE [⟨#[45, 49]⟩, ⟨#[45, 49]⟩] ⟨#[48]⟩ = x := ⟨_, rfl⟩
 rw [hE] at Pc
 clear hE
 have Pd := fun V v hv hV => hid (s_Simplex V v [⟨#[49]⟩] ⟨#[45, 49]⟩ hv (by intro s hs; simp at hs; subst hs; decide) (by decide) hV (by decide))
 rw [nm_d] at Pd
 obtain ⟨Rd, hE⟩ : ∃ x, smR [⟨#[49]⟩] ⟨#[45, 49]⟩ = x := ⟨_, rfl⟩
 rw [hE] at Pd
 clear hE
 have Pe := fun V v hv hV => hid (s_Monotone V v [⟨#[51]⟩, ⟨#[50]⟩, ⟨#[49]⟩] hv (by intro s hs; simp at hs; rcases hs with rfl | rfl | rfl <;> decide) hV)
 rw [nm_e] at Pe
 obtain ⟨Ee, hE⟩ : ∃ x, mnE [⟨#[51]⟩, ⟨#[50]⟩, ⟨#[49]⟩] = x := ⟨_, rfl⟩
 rw [hE] at Pe
 clear hE
 have Pf := fun V v hv hV => hid (s_Round V v [⟨#[49, 47, 50]⟩, ⟨#[49, 47, 50]⟩, ⟨#[49]⟩] hv (by intro s hs; simp at hs; rcases hs with rfl | rfl <;> decide) (by decide) hV)
 rw [nm_f] at Pf
 obtain ⟨Ef, hE⟩ : ∃ x, rdE [⟨#[49, 47, 50]⟩, ⟨#[49, 47, 50]⟩, ⟨#[49]⟩] = x := ⟨_, rfl⟩
 rw [hE] at Pf
 clear hE
 have Pg := fun V v hv hV => hid (s_Round V v [⟨#[45, 49, 47, 50]⟩, ⟨#[45, 49, 47, 50]⟩] hv (by intro s hs; simp at hs; subst hs; decide) (by decide) hV)
 rw [nm_g] at Pg
 obtain ⟨Eg, hE⟩ : ∃ x, rdE [⟨#[45, 49, 47, 50]⟩, ⟨#[45, 49, 47, 50]⟩] = x := ⟨_, rfl⟩
 rw [hE] at Pg
 clear hE
 have Ph := fun V v hv hV => hid (s_Round V v [⟨#[49, 47, 50]⟩] hv (by intro s hs; simp at hs; subst hs; decide) (by decide) hV)
 rw [nm_h] at Ph
 obtain ⟨Rh, hE⟩ : ∃ x, rdR' [⟨#[49, 47, 50]⟩] = x := ⟨_, rfl⟩
 rw [hE] at Ph
 clear hE
 have Pi := fun V v hv hV => hid (s_Round V v [⟨#[49, 48, 48, 48, 48, 48, 48, 48, 48, 48, 48, 48, 49]⟩] hv (by intro s hs; simp at hs; subst hs; decide) (by decide) hV)
 rw [nm_i] at Pi
 obtain ⟨Ri, hE⟩ : ∃ x, rdR' [⟨#[49, 48, 48, 48, 48, 48, 48, 48, 48, 48, 48, 48, 49]⟩] = x := ⟨_, rfl⟩
 rw [hE] at Pi
 clear hE
 have Pj := fun V v hv hV => hid (s_Monotone V v [] hv (by intro s hs; simp at hs) hV)
 rw [nm_j] at Pj
 obtain ⟨Rj, hE⟩ : ∃ x, mnR [] = x := ⟨_, rfl⟩
 rw [hE] at Pj
 clear hE
 have Pk := fun V v hv hV => hid (s_Consistent V v [⟨#[49]⟩] ⟨#[120]⟩ hv (by intro s hs; simp at hs; subst hs; decide) (by decide) hV)
 rw [nm_k] at Pk
 obtain ⟨Rk, hE⟩ : ∃ x, cnR [⟨#[49]⟩] ⟨#[120]⟩ = x := ⟨_, rfl⟩
 rw [hE] at Pk
 clear hE
 have Pl := fun V v hv hV => hid (s_Round V v [⟨#[50, 47, 50]⟩] hv (by intro s hs; simp at hs; subst hs; decide) (by decide) hV)
 rw [nm_l] at Pl
 obtain ⟨Rl, hE⟩ : ∃ x, rdR' [⟨#[50, 47, 50]⟩] = x := ⟨_, rfl⟩
 rw [hE] at Pl
 clear hE
 have Pm := fun V v hv hV => hid (s_Round V v [⟨#[45, 49, 48, 48, 48, 48, 48, 48, 48, 48, 48, 48, 48, 48]⟩, ⟨#[49, 48, 48, 48, 48, 48, 48, 48, 48, 48, 48, 48, 48]⟩] hv (by intro s hs; simp at hs; rcases hs with rfl | rfl <;> decide) (by decide) hV)
 rw [nm_m] at Pm
 obtain ⟨Em, hE⟩ : ∃ x, rdE [⟨#[45, 49, 48, 48, 48, 48, 48, 48, 48, 48, 48, 48, 48, 48]⟩, ⟨#[49, 48, 48, 48, 48, 48, 48, 48, 48, 48, 48, 48, 48]⟩] = x := ⟨_, rfl⟩
 rw [hE] at Pm
 clear hE
 have Sa := fun V u v hu hv => hid (k_SameS V u v [⟨#[50]⟩, ⟨#[51]⟩, ⟨#[52]⟩] [⟨#[50]⟩, ⟨#[51]⟩, ⟨#[52]⟩] hu hv)
 rw [decide_eq_true rfl] at Sa
 have Sb := fun V u v hu hv => hid (k_SameS V u v [⟨#[49, 47, 50]⟩] [⟨#[49, 47, 50]⟩] hu hv)
 rw [decide_eq_true rfl] at Sb
 have Sc := fun V u v hu hv => hid (k_SameS V u v [⟨#[48]⟩, ⟨#[48]⟩] [⟨#[48]⟩, ⟨#[48]⟩] hu hv)
 rw [decide_eq_true rfl] at Sc
 have Se := fun V u v hu hv => hid (k_SameS V u v [⟨#[50]⟩, ⟨#[50]⟩, ⟨#[50]⟩] [⟨#[50]⟩, ⟨#[50]⟩, ⟨#[50]⟩] hu hv)
 rw [decide_eq_true rfl] at Se
 have Sf := fun V u v hu hv => hid (k_SameI V u v [1, 0, 1] [1, 0, 1] hu hv)
 rw [decide_eq_true rfl] at Sf
 have Sg := fun V u v hu hv => hid (k_SameI V u v [0, -1] [0, -1] hu hv)
 rw [decide_eq_true rfl] at Sg
 have Sm := fun V u v hu hv => hid (k_SameI V u v [-1000000000000, 1000000000000] [-1000000000000, 1000000000000] hu hv)
 rw [decide_eq_true rfl] at Sm
 clear hL
 go_enter Tryz.func6, Tryz.ntmps6
 go_wp2_with fail
 refine PL.out.mono ?_; rintro e w0 ⟨rfl, hb0⟩
 have y0 := hid hb0
 clear hb0 PL
 have A := hid ((Below.refl w0.heap.size w0).alloc (Nat.le_refl _) (.cells #[.string ⟨#[49]⟩, .string ⟨#[50]⟩, .string ⟨#[51]⟩] 23))
 have R := hid (rowN_lit w0 [⟨#[49]⟩, ⟨#[50]⟩, ⟨#[51]⟩] _ 3 w0.heap.size rfl rfl rfl (by omega))
 go_wp2_with fail
 refine (Pa _ _ R.out (HL.out.call (bnext y0.out A.out))).out.mono ?_; rintro e w1 ⟨⟨ua, rfl, hu⟩, hb⟩
 have bb := hid (bnext A.out hb)
 have y1 := hid (bnext y0.out bb.out)
 have Ua := hid hu
 obtain ⟨aa, ka, rfl, -, -, -⟩ := hu.openS
 clear hb hu bb A R
 have A := hid ((Below.refl w1.heap.size w1).alloc (Nat.le_refl _) (.cells #[.string ⟨#[49]⟩] 23))
 have R := hid (rowN_lit w1 [⟨#[49]⟩] _ 1 w1.heap.size rfl rfl rfl (by omega))
 go_wp2_with fail
 refine (Pb _ _ R.out (HL.out.call (bnext y1.out A.out))).out.mono ?_; rintro e w2 ⟨⟨ub, rfl, hu⟩, hb⟩
 have bb := hid (bnext A.out hb)
 have y2 := hid (bnext y1.out bb.out)
 have Ua := hid (Ua.out.call bb.out)
 have Ub := hid hu
 obtain ⟨ab, kb, rfl, -, -, -⟩ := hu.openS
 clear hb hu bb A R
 have A := hid ((Below.refl w2.heap.size w2).alloc (Nat.le_refl _) (.cells #[.string ⟨#[45, 49]⟩, .string ⟨#[45, 49]⟩] 23))
 have R := hid (rowN_lit w2 [⟨#[45, 49]⟩, ⟨#[45, 49]⟩] _ 2 w2.heap.size rfl rfl rfl (by omega))
 go_wp2_with fail
 refine (Pc _ _ R.out (HL.out.call (bnext y2.out A.out))).out.mono ?_; rintro e w3 ⟨⟨uc, rfl, hu⟩, hb⟩
 have bb := hid (bnext A.out hb)
 have y3 := hid (bnext y2.out bb.out)
 have Ua := hid (Ua.out.call bb.out)
 have Ub := hid (Ub.out.call bb.out)
 have Uc := hid hu
 obtain ⟨ac, kc, rfl, -, -, -⟩ := hu.openS
 clear hb hu bb A R
 have A := hid ((Below.refl w3.heap.size w3).alloc (Nat.le_refl _) (.cells #[.string ⟨#[49]⟩] 23))
 have R := hid (rowN_lit w3 [⟨#[49]⟩] _ 1 w3.heap.size rfl rfl rfl (by omega))
 go_wp2_with fail
 refine (Pd _ _ R.out (HL.out.call (bnext y3.out A.out))).out.mono ?_; rintro e w4 ⟨⟨ud, rfl, hu⟩, hb⟩
 have bb := hid (bnext A.out hb)
 have y4 := hid (bnext y3.out bb.out)
 have Ua := hid (Ua.out.call bb.out)
 have Ub := hid (Ub.out.call bb.out)
 have Uc := hid (Uc.out.call bb.out)
 clear hb hu bb A R
 have A := hid ((Below.refl w4.heap.size w4).alloc (Nat.le_refl _) (.cells #[.string ⟨#[51]⟩, .string ⟨#[50]⟩, .string ⟨#[49]⟩] 23))
 have R := hid (rowN_lit w4 [⟨#[51]⟩, ⟨#[50]⟩, ⟨#[49]⟩] _ 3 w4.heap.size rfl rfl rfl (by omega))
 go_wp2_with fail
 refine (Pe _ _ R.out (HL.out.call (bnext y4.out A.out))).out.mono ?_; rintro e w5 ⟨⟨ue, rfl, hu⟩, hb⟩
 have bb := hid (bnext A.out hb)
 have y5 := hid (bnext y4.out bb.out)
 have Ua := hid (Ua.out.call bb.out)
 have Ub := hid (Ub.out.call bb.out)
 have Uc := hid (Uc.out.call bb.out)
 have Ue := hid hu
 obtain ⟨ae, ke, rfl, -, -, -⟩ := hu.openS
 clear hb hu bb A R
 have A := hid ((Below.refl w5.heap.size w5).alloc (Nat.le_refl _) (.cells #[.string ⟨#[49, 47, 50]⟩, .string ⟨#[49, 47, 50]⟩, .string ⟨#[49]⟩] 23))
 have R := hid (rowN_lit w5 [⟨#[49, 47, 50]⟩, ⟨#[49, 47, 50]⟩, ⟨#[49]⟩] _ 3 w5.heap.size rfl rfl rfl (by omega))
 go_wp2_with fail
 refine (Pf _ _ R.out (HL.out.call (bnext y5.out A.out))).out.mono ?_; rintro e w6 ⟨⟨uf, rfl, hu⟩, hb⟩
 have bb := hid (bnext A.out hb)
 have y6 := hid (bnext y5.out bb.out)
 have Ua := hid (Ua.out.call bb.out)
 have Ub := hid (Ub.out.call bb.out)
 have Uc := hid (Uc.out.call bb.out)
 have Ue := hid (Ue.out.call bb.out)
 have Uf := hid hu
 obtain ⟨af, kf, rfl, -, -, -⟩ := hu.openZ
 clear hb hu bb A R
 have A := hid ((Below.refl w6.heap.size w6).alloc (Nat.le_refl _) (.cells #[.string ⟨#[45, 49, 47, 50]⟩, .string ⟨#[45, 49, 47, 50]⟩] 23))
 have R := hid (rowN_lit w6 [⟨#[45, 49, 47, 50]⟩, ⟨#[45, 49, 47, 50]⟩] _ 2 w6.heap.size rfl rfl rfl (by omega))
 go_wp2_with fail
 refine (Pg _ _ R.out (HL.out.call (bnext y6.out A.out))).out.mono ?_; rintro e w7 ⟨⟨ug, rfl, hu⟩, hb⟩
 have bb := hid (bnext A.out hb)
 have y7 := hid (bnext y6.out bb.out)
 have Ua := hid (Ua.out.call bb.out)
 have Ub := hid (Ub.out.call bb.out)
 have Uc := hid (Uc.out.call bb.out)
 have Ue := hid (Ue.out.call bb.out)
 have Uf := hid (Uf.out.call bb.out)
 have Ug := hid hu
 obtain ⟨ag, kg, rfl, -, -, -⟩ := hu.openZ
 clear hb hu bb A R
 have A := hid ((Below.refl w7.heap.size w7).alloc (Nat.le_refl _) (.cells #[.string ⟨#[49, 47, 50]⟩] 23))
 have R := hid (rowN_lit w7 [⟨#[49, 47, 50]⟩] _ 1 w7.heap.size rfl rfl rfl (by omega))
 go_wp2_with fail
 refine (Ph _ _ R.out (HL.out.call (bnext y7.out A.out))).out.mono ?_; rintro e w8 ⟨⟨uh, rfl, hu⟩, hb⟩
 have bb := hid (bnext A.out hb)
 have y8 := hid (bnext y7.out bb.out)
 have Ua := hid (Ua.out.call bb.out)
 have Ub := hid (Ub.out.call bb.out)
 have Uc := hid (Uc.out.call bb.out)
 have Ue := hid (Ue.out.call bb.out)
 have Uf := hid (Uf.out.call bb.out)
 have Ug := hid (Ug.out.call bb.out)
 clear hb hu bb A R
 have A := hid ((Below.refl w8.heap.size w8).alloc (Nat.le_refl _) (.cells #[.string ⟨#[49, 48, 48, 48, 48, 48, 48, 48, 48, 48, 48, 48, 49]⟩] 23))
 have R := hid (rowN_lit w8 [⟨#[49, 48, 48, 48, 48, 48, 48, 48, 48, 48, 48, 48, 49]⟩] _ 1 w8.heap.size rfl rfl rfl (by omega))
 go_wp2_with fail
 refine (Pi _ _ R.out (HL.out.call (bnext y8.out A.out))).out.mono ?_; rintro e w9 ⟨⟨ui, rfl, hu⟩, hb⟩
 have bb := hid (bnext A.out hb)
 have y9 := hid (bnext y8.out bb.out)
 have Ua := hid (Ua.out.call bb.out)
 have Ub := hid (Ub.out.call bb.out)
 have Uc := hid (Uc.out.call bb.out)
 have Ue := hid (Ue.out.call bb.out)
 have Uf := hid (Uf.out.call bb.out)
 have Ug := hid (Ug.out.call bb.out)
 clear hb hu bb A R
 go_wp2_with fail
 refine (Pj _ _ (Row.nil _) (HL.out.call y9.out)).out.mono ?_; rintro e w10 ⟨⟨uj, rfl, hu⟩, hb⟩
 have bb := hid hb
 have y10 := hid (bnext y9.out bb.out)
 have Ua := hid (Ua.out.call bb.out)
 have Ub := hid (Ub.out.call bb.out)
 have Uc := hid (Uc.out.call bb.out)
 have Ue := hid (Ue.out.call bb.out)
 have Uf := hid (Uf.out.call bb.out)
 have Ug := hid (Ug.out.call bb.out)
 clear hb hu bb
 have A := hid ((Below.refl w10.heap.size w10).alloc (Nat.le_refl _) (.cells #[.string ⟨#[49]⟩] 23))
 have R := hid (rowN_lit w10 [⟨#[49]⟩] _ 1 w10.heap.size rfl rfl rfl (by omega))
 go_wp2_with fail
 refine (Pk _ _ R.out (HL.out.call (bnext y10.out A.out))).out.mono ?_; rintro e w11 ⟨⟨uk, rfl, hu⟩, hb⟩
 have bb := hid (bnext A.out hb)
 have y11 := hid (bnext y10.out bb.out)
 have Ua := hid (Ua.out.call bb.out)
 have Ub := hid (Ub.out.call bb.out)
 have Uc := hid (Uc.out.call bb.out)
 have Ue := hid (Ue.out.call bb.out)
 have Uf := hid (Uf.out.call bb.out)
 have Ug := hid (Ug.out.call bb.out)
 clear hb hu bb A R
 have A := hid ((Below.refl w11.heap.size w11).alloc (Nat.le_refl _) (.cells #[.string ⟨#[50, 47, 50]⟩] 23))
 have R := hid (rowN_lit w11 [⟨#[50, 47, 50]⟩] _ 1 w11.heap.size rfl rfl rfl (by omega))
 go_wp2_with fail
 refine (Pl _ _ R.out (HL.out.call (bnext y11.out A.out))).out.mono ?_; rintro e w12 ⟨⟨ul, rfl, hu⟩, hb⟩
 have bb := hid (bnext A.out hb)
 have y12 := hid (bnext y11.out bb.out)
 have Ua := hid (Ua.out.call bb.out)
 have Ub := hid (Ub.out.call bb.out)
 have Uc := hid (Uc.out.call bb.out)
 have Ue := hid (Ue.out.call bb.out)
 have Uf := hid (Uf.out.call bb.out)
 have Ug := hid (Ug.out.call bb.out)
 clear hb hu bb A R
 have A := hid ((Below.refl w12.heap.size w12).alloc (Nat.le_refl _) (.cells #[.string ⟨#[45, 49, 48, 48, 48, 48, 48, 48, 48, 48, 48, 48, 48, 48]⟩, .string ⟨#[49, 48, 48, 48, 48, 48, 48, 48, 48, 48, 48, 48, 48]⟩] 23))
 have R := hid (rowN_lit w12 [⟨#[45, 49, 48, 48, 48, 48, 48, 48, 48, 48, 48, 48, 48, 48]⟩, ⟨#[49, 48, 48, 48, 48, 48, 48, 48, 48, 48, 48, 48, 48]⟩] _ 2 w12.heap.size rfl rfl rfl (by omega))
 go_wp2_with fail
 refine (Pm _ _ R.out (HL.out.call (bnext y12.out A.out))).out.mono ?_; rintro e w13 ⟨⟨um, rfl, hu⟩, hb⟩
 have bb := hid (bnext A.out hb)
 have y13 := hid (bnext y12.out bb.out)
 have Ua := hid (Ua.out.call bb.out)
 have Ub := hid (Ub.out.call bb.out)
 have Uc := hid (Uc.out.call bb.out)
 have Ue := hid (Ue.out.call bb.out)
 have Uf := hid (Uf.out.call bb.out)
 have Ug := hid (Ug.out.call bb.out)
 have Um := hid hu
 obtain ⟨am, km, rfl, -, -, -⟩ := hu.openZ
 clear hb hu bb A R
 have A := hid ((Below.refl w13.heap.size w13).alloc (Nat.le_refl _) (.cells #[.string ⟨#[50]⟩, .string ⟨#[51]⟩, .string ⟨#[52]⟩] 23))
 have R := hid (rowN_lit w13 [⟨#[50]⟩, ⟨#[51]⟩, ⟨#[52]⟩] _ 3 w13.heap.size rfl rfl rfl (by omega))
 go_wp2_with fail
 refine (Sa _ _ _ (Ua.out.call A.out) R.out).out.mono ?_; rintro e w14 ⟨rfl, hb⟩
 have bb := hid (bnext A.out hb)
 have y14 := hid (bnext y13.out bb.out)
 have Ub := hid (Ub.out.call bb.out)
 have Uc := hid (Uc.out.call bb.out)
 have Ue := hid (Ue.out.call bb.out)
 have Uf := hid (Uf.out.call bb.out)
 have Ug := hid (Ug.out.call bb.out)
 have Um := hid (Um.out.call bb.out)
 clear hb bb A R
 have A := hid ((Below.refl w14.heap.size w14).alloc (Nat.le_refl _) (.cells #[.string ⟨#[49, 47, 50]⟩] 23))
 have R := hid (rowN_lit w14 [⟨#[49, 47, 50]⟩] _ 1 w14.heap.size rfl rfl rfl (by omega))
 go_wp2_with fail
 refine (Sb _ _ _ (Ub.out.call A.out) R.out).out.mono ?_; rintro e w15 ⟨rfl, hb⟩
 have bb := hid (bnext A.out hb)
 have y15 := hid (bnext y14.out bb.out)
 have Uc := hid (Uc.out.call bb.out)
 have Ue := hid (Ue.out.call bb.out)
 have Uf := hid (Uf.out.call bb.out)
 have Ug := hid (Ug.out.call bb.out)
 have Um := hid (Um.out.call bb.out)
 clear hb bb A R
 have A := hid ((Below.refl w15.heap.size w15).alloc (Nat.le_refl _) (.cells #[.string ⟨#[48]⟩, .string ⟨#[48]⟩] 23))
 have R := hid (rowN_lit w15 [⟨#[48]⟩, ⟨#[48]⟩] _ 2 w15.heap.size rfl rfl rfl (by omega))
 go_wp2_with fail
 refine (Sc _ _ _ (Uc.out.call A.out) R.out).out.mono ?_; rintro e w16 ⟨rfl, hb⟩
 have bb := hid (bnext A.out hb)
 have y16 := hid (bnext y15.out bb.out)
 have Ue := hid (Ue.out.call bb.out)
 have Uf := hid (Uf.out.call bb.out)
 have Ug := hid (Ug.out.call bb.out)
 have Um := hid (Um.out.call bb.out)
 clear hb bb A R
 have A := hid ((Below.refl w16.heap.size w16).alloc (Nat.le_refl _) (.cells #[.string ⟨#[50]⟩, .string ⟨#[50]⟩, .string ⟨#[50]⟩] 23))
 have R := hid (rowN_lit w16 [⟨#[50]⟩, ⟨#[50]⟩, ⟨#[50]⟩] _ 3 w16.heap.size rfl rfl rfl (by omega))
 go_wp2_with fail
 refine (Se _ _ _ (Ue.out.call A.out) R.out).out.mono ?_; rintro e w17 ⟨rfl, hb⟩
 have bb := hid (bnext A.out hb)
 have y17 := hid (bnext y16.out bb.out)
 have Uf := hid (Uf.out.call bb.out)
 have Ug := hid (Ug.out.call bb.out)
 have Um := hid (Um.out.call bb.out)
 clear hb bb A R
 have A := hid ((Below.refl w17.heap.size w17).alloc (Nat.le_refl _) (.cells #[.int .i64 1, .int .i64 0, .int .i64 1] 3))
 have R := hid (rowI_lit w17 [1, 0, 1] _ 3 w17.heap.size rfl rfl rfl (by omega))
 go_wp2_with fail
 refine (Sf _ _ _ (Uf.out.call A.out) R.out).out.mono ?_; rintro e w18 ⟨rfl, hb⟩
 have bb := hid (bnext A.out hb)
 have y18 := hid (bnext y17.out bb.out)
 have Ug := hid (Ug.out.call bb.out)
 have Um := hid (Um.out.call bb.out)
 clear hb bb A R
 have A := hid ((Below.refl w18.heap.size w18).alloc (Nat.le_refl _) (.cells #[.int .i64 0, .int .i64 (-1)] 3))
 have R := hid (rowI_lit w18 [0, -1] _ 2 w18.heap.size rfl rfl rfl (by omega))
 go_wp2_with fail
 refine (Sg _ _ _ (Ug.out.call A.out) R.out).out.mono ?_; rintro e w19 ⟨rfl, hb⟩
 have bb := hid (bnext A.out hb)
 have y19 := hid (bnext y18.out bb.out)
 have Um := hid (Um.out.call bb.out)
 clear hb bb A R
 have A := hid ((Below.refl w19.heap.size w19).alloc (Nat.le_refl _) (.cells #[.int .i64 (-1000000000000), .int .i64 1000000000000] 3))
 have R := hid (rowI_lit w19 [-1000000000000, 1000000000000] _ 2 w19.heap.size rfl rfl rfl (by omega))
 go_wp2_with fail
 refine (Sm _ _ _ (Um.out.call A.out) R.out).out.mono ?_; rintro e w20 ⟨rfl, hb⟩
 have bb := hid (bnext A.out hb)
 have y20 := hid (bnext y19.out bb.out)
 clear hb bb A R
 go_wp2_with fail
 go_ret
 exact ⟨rfl, y20.out⟩
end Go.Proofs.YtlimaehdmcnjaaaGreatDoor
namespace Go.Proofs.YtlimaehdmcnjaaaGreatDoor
open Go.RowKit
open Go.Lib (decDigits nDigits)
def t0B : ByteArray := ⟨#[48]⟩
def sumB (l : List ByteArray) : ByteArray := l.foldl (fun s a => op2B (· + ·) s a) t0B
def dq1 (p : ByteArray × ByteArray) : ByteArray := op2B (· - ·) p.1 p.2
def dq2 (p : ByteArray × ByteArray) : ByteArray := op2B (· * ·) (dq1 p) (dq1 p)
def dstB (a b : List ByteArray) : ByteArray := (a.zip b).foldl (fun s p => op2B (· + ·) s (dq2 p)) t0B
def lstB (a b : ByteArray) : Bool := decide (cmE a b = 0) && decide (cmB a b ≤ 0)
def cloB (l own other : List ByteArray) : Bool := lstB (dstB l own) (dstB l other) && (!decide (dstB l own = dstB l other) || decide (own = other))
theorem sumB_snoc (l : List ByteArray) (a : ByteArray) : sumB (l ++ [a]) = op2B (· + ·) (sumB l) a := by
 unfold sumB; rw [List.foldl_append]; rfl
theorem sumB_take {l : List ByteArray} {i : Nat} {a : ByteArray} (h : l[i]? = some a) : sumB (l.take (i + 1)) = op2B (· + ·) (sumB (l.take i)) a := by
 rw [List.take_add_one, h, Option.toList_some, sumB_snoc]
theorem dstB_take {a b : List ByteArray} {i : Nat} {x y : ByteArray} (h : a[i]? = some x) (h2 : b[i]? = some y) : dstB (a.take (i + 1)) (b.take (i + 1)) = op2B (· + ·) (dstB (a.take i) (b.take i)) (dq2 (x, y)) := by
 have hi := (List.getElem?_eq_some_iff.1 h).1
 have hi2 := (List.getElem?_eq_some_iff.1 h2).1
 unfold dstB
 rw [List.take_add_one, List.take_add_one, h, h2, Option.toList_some, Option.toList_some, List.zip_append (by rw [List.length_take, List.length_take]; omega), List.foldl_append]
 rfl
structure Tx (s : ByteArray) (q : Rat) : Prop where
 eq : s = txQ q
 fit : ¬ ovQ q
theorem Tx.of {s : ByteArray} (h : qE s = 0) : Tx s (vQ s) := ⟨vQ_text h, vQ_fits h⟩
theorem Tx.qE {s : ByteArray} {q : Rat} (h : Tx s q) : qE s = 0 := by rw [h.eq]; exact qE_txQ h.fit
theorem Tx.vQ {s : ByteArray} {q : Rat} (h : Tx s q) : vQ s = q := by rw [h.eq, vQ_txQ]
theorem Tx.inj {s t : ByteArray} {q : Rat} (h : Tx s q) (h2 : Tx t q) : s = t := h.eq.trans h2.eq.symm
theorem Tx.val {s : ByteArray} {p q : Rat} (h : Tx s p) (h2 : Tx s q) : p = q := h.vQ.symm.trans h2.vQ
theorem tx_iff {s t : ByteArray} {p q : Rat} (h : Tx s p) (h2 : Tx t q) : s = t ↔ p = q := ⟨fun e => by subst e; exact h.val h2, fun e => by subst e; exact h.inj h2⟩
theorem tx_op {f : Rat → Rat → Rat} {s t : ByteArray} {p q : Rat} (h : Tx s p) (h2 : Tx t q) (hf : ¬ ovQ (f p q)) : Tx (op2B f s t) (f p q) := by
 refine ⟨?_, hf⟩
 unfold op2B
 rw [if_pos ⟨h.qE, h2.qE⟩, h.vQ, h2.vQ, outB_fits hf]
theorem tx_zero : Tx t0B 0 := ⟨by decide +kernel, by decide +kernel⟩
theorem lst_iff {s t : ByteArray} {p q : Rat} (h : Tx s p) (h2 : Tx t q) : lstB s t = decide (p ≤ q) := by
 have e1 : cmE s t = 0 := by unfold cmE; rw [if_pos h.qE, h2.qE]
 have e2 : cmB s t = ordQ p q := by unfold cmB; rw [if_pos ⟨h.qE, h2.qE⟩, h.vQ, h2.vQ]
 unfold lstB
 rw [e1, e2, decide_eq_true rfl, Bool.true_and, Bool.eq_iff_iff, decide_eq_true_iff, decide_eq_true_iff]
 exact ordQ_le_iff
theorem sumB_is {l : List ByteArray} {qs : List Rat} (hl : l.length = qs.length) (h : ∀ (i : Nat) (s : ByteArray) (q : Rat), l[i]? = some s → qs[i]? = some q → Tx s q) (hf : ∀ i, i ≤ qs.length → ¬ ovQ (rs (qs.take i))) : Tx (sumB l) (rs qs) := by
 have key : ∀ i, i ≤ qs.length → Tx (sumB (l.take i)) (rs (qs.take i)) := by
  intro i
  induction i with
  | zero => intro _; exact tx_zero
  | succ i ih =>
   intro hi
   obtain ⟨q, hq⟩ : ∃ q, qs[i]? = some q := ⟨_, List.getElem?_eq_getElem (by omega)⟩
   obtain ⟨s, hs⟩ : ∃ s, l[i]? = some s := ⟨_, List.getElem?_eq_getElem (by omega)⟩
   have h2 := hf (i + 1) hi
   rw [rs_take_snoc hq] at h2 ⊢
   rw [sumB_take hs]
   exact tx_op (f := (· + ·)) (ih (by omega)) (h i s q hs hq) h2
 have := key qs.length (Nat.le_refl _)
 rwa [List.take_of_length_le (Nat.le_of_eq hl), List.take_length] at this
theorem ds_take_snoc {a b : List Rat} {i : Nat} {p q : Rat} (h : a[i]? = some p) (h2 : b[i]? = some q) : ds (a.take (i + 1)) (b.take (i + 1)) = ds (a.take i) (b.take i) + (p - q) * (p - q) := by
 induction i generalizing a b with
 | zero =>
  cases a with
  | nil => simp at h
  | cons x a =>
   cases b with
   | nil => simp at h2
   | cons y b =>
    simp at h h2
    subst h h2
    simp [ds]
    grind
 | succ i ih =>
  cases a with
  | nil => simp at h
  | cons x a =>
   cases b with
   | nil => simp at h2
   | cons y b =>
    rw [List.getElem?_cons_succ] at h h2
    rw [List.take_succ_cons, List.take_succ_cons, List.take_succ_cons, List.take_succ_cons, ds, ds, ih h h2]
    grind
theorem dstB_is {a b : List ByteArray} {ps qs : List Rat} (ha : a.length = ps.length) (hb : b.length = qs.length) (hab : ps.length = qs.length) (h : ∀ (i : Nat) (s : ByteArray) (q : Rat), a[i]? = some s → ps[i]? = some q → Tx s q) (h2 : ∀ (i : Nat) (s : ByteArray) (q : Rat), b[i]? = some s → qs[i]? = some q → Tx s q)
 (h3 : ∀ (i : Nat) (p q : Rat), ps[i]? = some p → qs[i]? = some q → ¬ ovQ (p - q) ∧ ¬ ovQ ((p - q) * (p - q))) (hf : ∀ i, i ≤ qs.length → ¬ ovQ (ds (ps.take i) (qs.take i))) : Tx (dstB a b) (ds ps qs) := by
 have key : ∀ i, i ≤ qs.length → Tx (dstB (a.take i) (b.take i)) (ds (ps.take i) (qs.take i)) := by
  intro i
  induction i with
  | zero => intro _; exact tx_zero
  | succ i ih =>
   intro hi
   obtain ⟨p, hp⟩ : ∃ q, ps[i]? = some q := ⟨_, List.getElem?_eq_getElem (by omega)⟩
   obtain ⟨q, hq⟩ : ∃ q, qs[i]? = some q := ⟨_, List.getElem?_eq_getElem (by omega)⟩
   obtain ⟨s, hs⟩ : ∃ s, a[i]? = some s := ⟨_, List.getElem?_eq_getElem (by omega)⟩
   obtain ⟨t, ht⟩ : ∃ s, b[i]? = some s := ⟨_, List.getElem?_eq_getElem (by omega)⟩
   have f1 := hf (i + 1) hi
   obtain ⟨f2, f3⟩ := h3 i p q hp hq
   rw [ds_take_snoc hp hq] at f1 ⊢
   rw [dstB_take hs ht]
   have d1 : Tx (dq1 (s, t)) (p - q) := tx_op (f := (· - ·)) (h i s p hs hp) (h2 i t q ht hq) f2
   exact tx_op (f := (· + ·)) (ih (by omega)) (tx_op (f := (· * ·)) d1 d1 f3) f1
 have := key qs.length (Nat.le_refl _)
 rwa [List.take_of_length_le (by omega), List.take_of_length_le (by omega), List.take_of_length_le (by omega), List.take_length] at this
theorem rs_dn {D B : Nat} (hD : 0 < D) : ∀ {l : List Rat}, (∀ q ∈ l, Dn D B q) → Dn D (l.length * B) (rs l)
 | [], _ => by rw [rs]; exact Dn.zero hD
 | q :: l, h => by
  rw [rs, List.length_cons, Nat.succ_mul, Nat.add_comm (l.length * B)]
  exact (h q (by simp)).add (rs_dn hD fun p hp => h p (by simp [hp]))
theorem ds_dn {D B C : Nat} (hD : 0 < D) : ∀ {a b : List Rat}, (∀ q ∈ a, Dn D B q) → (∀ q ∈ b, Dn D C q) → Dn (D * D) (a.length * ((B + C) * (B + C))) (ds a b)
 | [], b, _, _ => by
  rw [ds]
  ·exact Dn.zero (Nat.mul_pos hD hD)
  ·intro a r b s e; cases e
 | q :: l, [], _, _ => by
  rw [ds]
  ·exact Dn.zero (Nat.mul_pos hD hD)
  ·intro a r b s _ e; cases e
 | p :: a, q :: b, h, h2 => by
  rw [ds, List.length_cons, Nat.succ_mul, Nat.add_comm (a.length * _)]
  have d := (h p (by simp)).sub (h2 q (by simp))
  exact (d.mul d).add (ds_dn hD (fun p hp => h p (by simp [hp])) fun p hp => h2 p (by simp [hp]))
theorem Dn.fits {D B K : Nat} {q : Rat} (h : Dn D B q) (h1 : (B + 1) * D < 10 ^ K) (h0 : 0 < K) (hK : K ≤ 4000) : ¬ ovQ q := (h.dig h1).fits h0 hK
structure TxL (D B : Nat) (l : List ByteArray) (qs : List Rat) : Prop where
 len : l.length = qs.length
 tx : ∀ (i : Nat) (s : ByteArray) (q : Rat), l[i]? = some s → qs[i]? = some q → Tx s q
 dn : ∀ q ∈ qs, Dn D B q
theorem TxL.sum {D B K : Nat} {l : List ByteArray} {qs : List Rat} (h : TxL D B l qs) (hD : 0 < D) (hK : (qs.length * B + 1) * D < 10 ^ K) (h0 : 0 < K) (h4 : K ≤ 4000) : Tx (sumB l) (rs qs) := by
 refine sumB_is h.len h.tx fun i hi => ?_
 have d := rs_dn hD (l := qs.take i) fun q hq => h.dn q (List.mem_of_mem_take hq)
 refine d.fits (K := K) (Nat.lt_of_le_of_lt (Nat.mul_le_mul_right _ (Nat.add_le_add_right (Nat.mul_le_mul_right _ ?_) 1)) hK) h0 h4
 rw [List.length_take]; omega
theorem TxL.dst {D B C K : Nat} {a b : List ByteArray} {ps qs : List Rat} (h : TxL D B a ps) (h2 : TxL D C b qs) (hl : ps.length = qs.length) (hn : 0 < ps.length) (hD : 0 < D) (hK : (ps.length * ((B + C) * (B + C)) + 1) * (D * D) < 10 ^ K) (h0 : 0 < K) (h4 : K ≤ 4000) : Tx (dstB a b) (ds ps qs) := by
 have hD1 : D ≤ D * D := Nat.le_mul_of_pos_left _ hD
 refine dstB_is h.len h2.len hl h.tx h2.tx (fun i p q hp hq => ?_) (fun i hi => ?_)
 ·have d := (h.dn p (List.mem_of_getElem? hp)).sub (h2.dn q (List.mem_of_getElem? hq))
  have e1 : (B + C) * (B + C) ≤ ps.length * ((B + C) * (B + C)) := Nat.le_mul_of_pos_left _ hn
  have e2 : B + C ≤ (B + C) * (B + C) := by
   rcases Nat.eq_zero_or_pos (B + C) with e | e
   ·rw [e]; omega
   ·exact Nat.le_mul_of_pos_left _ e
  exact ⟨d.fits (K := K) (Nat.lt_of_le_of_lt (Nat.mul_le_mul (by omega) hD1) hK) h0 h4, (d.mul d).fits (K := K) (Nat.lt_of_le_of_lt (Nat.mul_le_mul_right _ (by omega)) hK) h0 h4⟩
 ·have d := ds_dn hD (a := ps.take i) (b := qs.take i) (fun q hq => h.dn q (List.mem_of_mem_take hq)) (fun q hq => h2.dn q (List.mem_of_mem_take hq))
  refine d.fits (K := K) (Nat.lt_of_le_of_lt (Nat.mul_le_mul_right _ (Nat.add_le_add_right (Nat.mul_le_mul_right _ ?_) 1)) hK) h0 h4
  rw [List.length_take]; omega
theorem TxL.up {D B C : Nat} {l : List ByteArray} {qs : List Rat} (h : TxL D B l qs) (hC : B ≤ C) : TxL D C l qs := ⟨h.len, h.tx, fun q hq => (h.dn q hq).upB hC⟩
theorem TxL.dvd {D E B : Nat} {l : List ByteArray} {qs : List Rat} (h : TxL D B l qs) (hE : 0 < E) (hd : D ∣ E) : TxL E B l qs := ⟨h.len, h.tx, fun q hq => (h.dn q hq).dvd hE hd⟩
theorem TxL.eq_iff {D B E C : Nat} {a b : List ByteArray} {ps qs : List Rat} (h : TxL D B a ps) (h2 : TxL E C b qs) : a = b ↔ ps = qs := by
 constructor
 ·rintro rfl
  have hl := h.len.symm.trans h2.len
  refine List.ext_getElem? fun i => ?_
  by_cases hi : i < ps.length
  ·obtain ⟨p, hp⟩ : ∃ q, ps[i]? = some q := ⟨_, List.getElem?_eq_getElem hi⟩
   obtain ⟨q, hq⟩ : ∃ q, qs[i]? = some q := ⟨_, List.getElem?_eq_getElem (by omega)⟩
   obtain ⟨s, hs⟩ : ∃ s, a[i]? = some s := ⟨_, List.getElem?_eq_getElem (by rw [h.len]; exact hi)⟩
   rw [hp, hq, (h.tx i s p hs hp).val (h2.tx i s q hs hq)]
  ·rw [List.getElem?_eq_none (by omega), List.getElem?_eq_none (by omega)]
 ·rintro rfl
  have hl := h.len.trans h2.len.symm
  refine List.ext_getElem? fun i => ?_
  by_cases hi : i < ps.length
  ·obtain ⟨p, hp⟩ : ∃ q, ps[i]? = some q := ⟨_, List.getElem?_eq_getElem hi⟩
   obtain ⟨s, hs⟩ : ∃ s, a[i]? = some s := ⟨_, List.getElem?_eq_getElem (by rw [h.len]; exact hi)⟩
   obtain ⟨t, ht⟩ : ∃ s, b[i]? = some s := ⟨_, List.getElem?_eq_getElem (by rw [h2.len]; exact hi)⟩
   rw [hs, ht, (h.tx i s p hs hp).inj (h2.tx i t p ht hp)]
  ·rw [List.getElem?_eq_none (by have := h.len; omega), List.getElem?_eq_none (by have := h2.len; omega)]
theorem clo_true {l own other : List ByteArray} {p q : Rat} (h1 : Tx (dstB l own) p) (h2 : Tx (dstB l other) q) (hle : p ≤ q) (he : p = q → own = other) : cloB l own other = true := by
 unfold cloB
 rw [lst_iff h1 h2, decide_eq_true hle, Bool.true_and]
 by_cases e : p = q
 ·rw [decide_eq_true (he e), Bool.or_true]
 ·rw [decide_eq_false (fun e2 => e ((tx_iff h1 h2).1 e2))]; rfl
def lightB (l : List ByteArray) : Bool := l.all (fun s => decide (s.size ≤ 20)) && decide (l.length ≤ 12)
def validB (l : List ByteArray) : Bool := l.all (fun s => decide (qE s = 0)) && (lightB l && decide (0 < l.length))
structure VL (K : Nat) (l : List ByteArray) : Prop where
 q : ∀ s ∈ l, qE s = 0
 sz : ∀ s ∈ l, s.size ≤ K
 pos : 0 < l.length
 le : l.length ≤ 12
theorem VL.of {l : List ByteArray} (h : validB l = true) : VL 20 l := by
 unfold validB lightB at h
 simp only [Bool.and_eq_true, List.all_eq_true, decide_eq_true_eq] at h
 exact ⟨h.1, h.2.1.1, h.2.2, h.2.1.2⟩
theorem VL.take {K n : Nat} {l : List ByteArray} (h : VL K l) (h0 : 0 < n) : VL K (l.take n) :=
 ⟨fun s hs => h.q s (List.mem_of_mem_take hs), fun s hs => h.sz s (List.mem_of_mem_take hs), by rw [List.length_take]; have := h.pos; omega, by rw [List.length_take]; have := h.le; omega⟩
theorem VL.vec {K : Nat} {l : List ByteArray} (h : VL K l) : vecE l = 0 := by
 rw [vecE_is h.pos (by have := h.le; omega)]
 exact errL_zero.2 h.q
theorem VL.dig {K : Nat} {l : List ByteArray} (h : VL K l) (hK : 1 ≤ K) : ∀ q ∈ l.map vQ, Dig K q := by
 intro q hq
 obtain ⟨s, hs, rfl⟩ := List.mem_map.1 hq
 exact dig_text (h.q s hs) (h.sz s hs) hK
def vD (l : List ByteArray) : Nat := dnP (l.map vQ)
theorem vD_pos (l : List ByteArray) : 0 < vD l := dnP_pos _
theorem VL.vD_le {K : Nat} {l : List ByteArray} (h : VL K l) (hK : 1 ≤ K) : vD l ≤ 10 ^ (12 * K) := by
 refine Nat.le_trans (dnP_lt (h.dig hK)) (Nat.pow_le_pow_right (by omega) ?_)
 rw [List.length_map, Nat.mul_comm]
 exact Nat.mul_le_mul_right _ h.le
theorem tx_all {l : List ByteArray} (h : ∀ s ∈ l, qE s = 0) : ∀ (i : Nat) (s : ByteArray) (q : Rat), l[i]? = some s → (l.map vQ)[i]? = some q → Tx s q := by
 intro i s q h1 h2
 rw [List.getElem?_map, h1] at h2
 simp at h2
 subst h2
 exact Tx.of (h s (List.mem_of_getElem? h1))
theorem VL.tx {K : Nat} {l : List ByteArray} (h : VL K l) (hK : 1 ≤ K) : TxL (vD l) (10 ^ K) l (l.map vQ) :=
 ⟨by simp, tx_all h.q, fun q hq => (h.dig hK q hq).dn.dvd (vD_pos l) (dnP_dvd hq)⟩
theorem lt_pow {B D a b K : Nat} (hB : B ≤ 10 ^ a) (hD : D ≤ 10 ^ b) (h : a + b < K) : (B + 1) * D < 10 ^ K := by
 have h1 : 0 < 10 ^ a := Nat.pow_pos (by omega)
 have h2 : 0 < 10 ^ b := Nat.pow_pos (by omega)
 refine Nat.lt_of_le_of_lt (Nat.mul_le_mul (Nat.add_le_add_right hB 1) hD) (Nat.lt_of_lt_of_le ?_ (Nat.pow_le_pow_right (by omega) (show a + 1 + b ≤ K by omega)))
 rw [Nat.pow_add, Nat.pow_succ]
 exact Nat.mul_lt_mul_of_pos_right (by omega) h2
theorem mul_pow {B C a b : Nat} (hB : B ≤ 10 ^ a) (hC : C ≤ 10 ^ b) : B * C ≤ 10 ^ (a + b) := by
 rw [Nat.pow_add]; exact Nat.mul_le_mul hB hC
theorem add_pow {B C a : Nat} (hB : B ≤ 10 ^ a) (hC : C ≤ 10 ^ a) : B + C ≤ 10 ^ (a + 1) := by
 have h1 : 0 < 10 ^ a := Nat.pow_pos (by omega)
 rw [Nat.pow_succ]; omega
theorem up_pow {B a b : Nat} (hB : B ≤ 10 ^ a) (h : a ≤ b) : B ≤ 10 ^ b := Nat.le_trans hB (Nat.pow_le_pow_right (by omega) h)
theorem n12 {n : Nat} (h : n ≤ 12) : n ≤ 10 ^ 2 := by omega
theorem Dn.tx {D B a b : Nat} {q : Rat} (h : Dn D B q) (hB : B ≤ 10 ^ a) (hD : D ≤ 10 ^ b) (hk : a + b < 4000) : Tx (txQ q) q :=
 ⟨rfl, h.fits (K := a + b + 1) (lt_pow hB hD (by omega)) (by omega) (by omega)⟩
theorem TxL.of {D B a b : Nat} {qs : List Rat} (h : ∀ q ∈ qs, Dn D B q) (hB : B ≤ 10 ^ a) (hD : D ≤ 10 ^ b) (hk : a + b < 4000) : TxL D B (qs.map txQ) qs :=
 ⟨by simp, fun i s q h1 h2 => by
  rw [List.getElem?_map, h2] at h1
  simp at h1
  subst h1
  exact (h q (List.mem_of_getElem? h2)).tx hB hD hk, h⟩
theorem map_vQ_tx (qs : List Rat) : (qs.map txQ).map vQ = qs := by
 rw [List.map_map]
 conv => rhs; rw [← List.map_id qs]
 exact List.map_congr_left fun q _ => vQ_txQ q
theorem TxL.qe {D B : Nat} {l : List ByteArray} {qs : List Rat} (h : TxL D B l qs) : ∀ s ∈ l, qE s = 0 := by
 intro s hs
 obtain ⟨i, hi⟩ := List.getElem?_of_mem hs
 have := (List.getElem?_eq_some_iff.1 hi).1
 obtain ⟨q, hq⟩ : ∃ q, qs[i]? = some q := ⟨_, List.getElem?_eq_getElem (by rw [← h.len]; exact this)⟩
 exact (h.tx i s q hi hq).qE
theorem TxL.drop {D B : Nat} {l : List ByteArray} {qs : List Rat} (h : TxL D B l qs) (n : Nat) : TxL D B (l.drop n) (qs.drop n) :=
 ⟨by rw [List.length_drop, List.length_drop, h.len], fun i s q h1 h2 => by
  rw [List.getElem?_drop] at h1 h2
  exact h.tx _ s q h1 h2, fun q hq => h.dn q (List.mem_of_mem_drop hq)⟩
theorem TxL.cons {D B : Nat} {l : List ByteArray} {qs : List Rat} {s : ByteArray} {q : Rat} (h : TxL D B l qs) (h1 : Tx s q) (h2 : Dn D B q) : TxL D B (s :: l) (q :: qs) :=
 ⟨by simp [h.len], fun i a p k1 k2 => by
  cases i with
  | zero => simp at k1 k2; subst k1 k2; exact h1
  | succ i => simp at k1 k2; exact h.tx i a p k1 k2, fun p hp => by
  rcases List.mem_cons.1 hp with rfl | hp
  ·exact h2
  ·exact h.dn p hp⟩
theorem TxL.sz {D B : Nat} {l : List ByteArray} {qs : List Rat} (h : TxL D B l qs) : ∀ s ∈ l, s.size ≤ 10000 := by
 intro s hs
 obtain ⟨i, hi⟩ := List.getElem?_of_mem hs
 have := (List.getElem?_eq_some_iff.1 hi).1
 obtain ⟨q, hq⟩ : ∃ q, qs[i]? = some q := ⟨_, List.getElem?_eq_getElem (by rw [← h.len]; exact this)⟩
 have k := h.tx i s q hi hq
 rw [k.eq]
 exact tx_size k.fit
theorem clo_of {D B C a b : Nat} {l xs ys : List ByteArray} {v x y : List Rat} (hl : TxL D B l v) (hx : TxL D C xs x) (hy : TxL D C ys y) (h1 : v.length = x.length) (h2 : x.length = y.length) (hn : 0 < v.length) (hn2 : v.length ≤ 12) (hD : 0 < D)
 (hB : B ≤ 10 ^ a) (hC : C ≤ 10 ^ a) (hb : D ≤ 10 ^ b) (hk : 2 * a + 2 * b + 10 < 4000) (hip : 0 ≤ ip v x y) : cloB l xs ys = true := by
 have hbc := add_pow hB hC
 have e1 : v.length * ((B + C) * (B + C)) ≤ 10 ^ (2 + ((a + 1) + (a + 1))) := mul_pow (n12 hn2) (mul_pow hbc hbc)
 have e2 : D * D ≤ 10 ^ (b + b) := mul_pow hb hb
 have e3 := lt_pow e1 e2 (K := 2 * a + 2 * b + 6) (by omega)
 have d1 := hl.dst hx h1 hn hD e3 (by omega) (by omega)
 have d2 := hl.dst hy (h1.trans h2) hn hD e3 (by omega) (by omega)
 obtain ⟨k1, k2⟩ := closest_le h1 h2 hip
 exact clo_true d1 d2 k1 fun e => (hx.eq_iff hy).2 (k2 e)
structure TotOk (l o : List ByteArray) (t : ByteArray) : Prop where
 e0 : cnE l t = 0
 len : (cnR l t).length = l.length
 sum : sumB (cnR l t) = t
 same : ∃ c, ∀ (i : Nat) (s x : ByteArray), l[i]? = some s → (cnR l t)[i]? = some x → op2B (· - ·) x s = c
 again : cnE (cnR l t) t = 0 ∧ cnR (cnR l t) t = cnR l t
 clo : cloB l (cnR l t) (op2B (· - ·) t (sumB ((o.take l.length).drop 1)) :: (o.take l.length).drop 1) = true
 sz : ∀ s ∈ cnR l t, s.size ≤ 10000
theorem tot_main {l o : List ByteArray} {t : ByteArray} (hl : VL 20 l) (ho : VL 20 o) (hlo : l.length ≤ o.length) (ht : qE t = 0) (hts : t.size ≤ 20) : TotOk l o t := by
 have hp := hl.pos
 have hle := hl.le
 obtain ⟨n, hn⟩ : ∃ n, l.length = n := ⟨_, rfl⟩
 have ho' := ho.take (n := n) (by omega)
 obtain ⟨o', ho'e⟩ : ∃ o', o.take n = o' := ⟨_, rfl⟩
 rw [ho'e] at ho'
 have hlen' : o'.length = n := by rw [← ho'e, List.length_take]; omega
 have dT := dig_text ht hts (by omega)
 obtain ⟨T, hT⟩ : ∃ T, vQ t = T := ⟨_, rfl⟩
 have tT : Tx t T := by rw [← hT]; exact Tx.of ht
 rw [hT] at dT
 obtain ⟨v, hv⟩ : ∃ v, l.map vQ = v := ⟨_, rfl⟩
 have hvn : v.length = n := by rw [← hv, List.length_map, hn]
 -- the denominators
 obtain ⟨D0, hD0⟩ : ∃ D, vD l * (vD o' * T.den) = D := ⟨_, rfl⟩
 have p0 : 0 < D0 := by rw [← hD0]; exact Nat.mul_pos (vD_pos l) (Nat.mul_pos (vD_pos _) T.den_pos)
 obtain ⟨b0, hb0⟩ : ∃ b, b = 500 := ⟨_, rfl⟩
 obtain ⟨a0, ha0⟩ : ∃ b, b = 20 := ⟨_, rfl⟩
 have l0 : D0 ≤ 10 ^ b0 := by
  rw [← hD0]
  exact up_pow (mul_pow (hl.vD_le (by omega)) (mul_pow (ho'.vD_le (by omega)) (Nat.le_of_lt dT.d))) (by omega)
 have B0 : 10 ^ 20 ≤ 10 ^ a0 := by rw [ha0]; exact Nat.le_refl _
 have xl : TxL D0 (10 ^ a0) l v := by
  rw [← hv]
  exact ((hl.tx (by omega)).dvd p0 (by rw [← hD0]; exact Nat.dvd_mul_right _ _)).up B0
 have xo : TxL D0 (10 ^ a0) o' (o'.map vQ) := ((ho'.tx (by omega)).dvd p0 (by rw [← hD0]; exact Nat.dvd_trans (Nat.dvd_mul_right _ _) (Nat.dvd_mul_left _ _))).up B0
 have nT : Dn D0 (10 ^ a0) T := (dT.dn.dvd p0 (by rw [← hD0]; exact Nat.dvd_trans (Nat.dvd_mul_left _ _) (Nat.dvd_mul_left _ _))).upB B0
 -- the amount
 have s0 := rs_dn p0 xl.dn
 rw [hvn] at s0
 have hn2 : n * 10 ^ a0 ≤ 10 ^ (2 + a0) := mul_pow (n12 (by omega)) (Nat.le_refl _)
 have hn3 : 10 ^ a0 + n * 10 ^ a0 ≤ 10 ^ (a0 + 3) := up_pow (add_pow (up_pow (Nat.le_refl _) (by omega)) hn2) (by omega)
 have nc := ((nT.sub s0).over (k := n) (by omega)).upB hn3
 obtain ⟨c, hc⟩ : ∃ c, (T - rs v) / ((n : Nat) : Rat) = c := ⟨_, rfl⟩
 rw [hc] at nc
 obtain ⟨D, hD⟩ : ∃ D, D0 * n = D := ⟨_, rfl⟩
 rw [hD] at nc
 have pD : 0 < D := by rw [← hD]; exact Nat.mul_pos p0 (by omega)
 have lD : D ≤ 10 ^ (b0 + 2) := by rw [← hD]; exact mul_pow l0 (n12 (by omega))
 have dv : D0 ∣ D := by rw [← hD]; exact Nat.dvd_mul_right _ _
 obtain ⟨x, hx⟩ : ∃ x, v.map (fun a => a + c) = x := ⟨_, rfl⟩
 have C0 : 10 ^ a0 + 10 ^ (a0 + 3) ≤ 10 ^ (a0 + 4) := add_pow (up_pow (Nat.le_refl _) (by omega)) (Nat.le_refl _)
 have dx : ∀ q ∈ x, Dn D (10 ^ (a0 + 4)) q := by
  rw [← hx]
  intro q hq
  obtain ⟨a, ha, rfl⟩ := List.mem_map.1 hq
  exact (((xl.dn a ha).dvd pD dv).add nc).upB C0
 have xx : TxL D (10 ^ (a0 + 4)) (x.map txQ) x := TxL.of dx (Nat.le_refl _) lD (by omega)
 have hxn : x.length = n := by rw [← hx, List.length_map, hvn]
 have hnr : ((n : Nat) : Rat) ≠ 0 := natR_ne (by omega)
 have hrx : rs x = T := by
  rw [← hx, rs_add, hvn, ← hc]
  grind
 have hcn : cnQ v T = x := by
  unfold cnQ
  rw [hvn, hc, hx]
 obtain ⟨w1, w2⟩ := wr_fits (l := x) fun q hq => by
  obtain ⟨i, hi⟩ := List.getElem?_of_mem hq
  exact (xx.tx i (txQ q) q (by rw [List.getElem?_map, hi]; rfl) hi).fit
 have bt : btE l t = 0 := by unfold btE; rw [if_pos hl.vec]; exact ht
 have eE : cnE l t = 0 := by unfold cnE; rw [if_pos bt, hv, hT, hcn]; exact w1
 have eR : cnR l t = x.map txQ := by unfold cnR; rw [if_pos bt, hv, hT, hcn]; exact w2
 have xs0 : ∀ s ∈ x.map txQ, qE s = 0 := xx.qe
 have bt2 : btE (x.map txQ) t = 0 := by
  unfold btE
  rw [if_pos]
  ·exact ht
  ·rw [vecE_is (by rw [List.length_map]; omega) (by rw [List.length_map]; omega)]
   exact errL_zero.2 xs0
 have hcn2 : cnQ x T = x := by
  unfold cnQ
  rw [hrx]
  have z : (T - T) / ((x.length : Nat) : Rat) = 0 := by
   rw [show T - T = 0 by grind, Rat.div_def, Rat.zero_mul]
  rw [z]
  conv => rhs; rw [← List.map_id x]
  exact List.map_congr_left fun q _ => by show q + 0 = q; grind
 have sx := xx.sum (K := a0 + b0 + 20) pD (lt_pow (mul_pow (n12 (by omega)) (Nat.le_refl _)) lD (by omega)) (by omega) (by omega)
 rw [hrx] at sx
 refine ⟨eE, by rw [eR, List.length_map, hxn, hn], by rw [eR]; exact sx.inj tT, ⟨txQ c, fun i s q h1 h2 => ?_⟩, ?_, ?_, by rw [eR]; exact xx.sz⟩
 ·rw [eR] at h2
  obtain ⟨p, hp'⟩ : ∃ q, v[i]? = some q := ⟨_, List.getElem?_eq_getElem (by have := (List.getElem?_eq_some_iff.1 h1).1; omega)⟩
  have hxi : x[i]? = some (p + c) := by rw [← hx, List.getElem?_map, hp']; rfl
  have k1 := xx.tx i q _ h2 hxi
  have k2 := xl.tx i s _ h1 hp'
  have ec : p + c - p = c := by grind
  have := tx_op (f := (· - ·)) k1 k2 (by show ¬ ovQ (p + c - p); rw [ec]; exact (nc.tx (Nat.le_refl _) lD (by omega)).fit)
  have e := this.eq
  show _ = _
  rw [e]
  show txQ (p + c - p) = _
  rw [ec]
 ·refine ⟨?_, ?_⟩
  ·rw [eR]; unfold cnE; rw [if_pos bt2, map_vQ_tx, hT, hcn2]; exact w1
  ·rw [eR]; unfold cnR; rw [if_pos bt2, map_vQ_tx, hT, hcn2]; exact w2
 ·rw [eR, hn, ho'e]
  have xod := xo.drop 1
  obtain ⟨ws, hws⟩ : ∃ w, (o'.map vQ).drop 1 = w := ⟨_, rfl⟩
  rw [hws] at xod
  have hwl : ws.length = n - 1 := by rw [← hws, List.length_drop, List.length_map, hlen']
  have so := xod.sum (K := a0 + b0 + 20) p0 (lt_pow (mul_pow (n12 (by omega)) (Nat.le_refl _)) l0 (by omega)) (by omega) (by omega)
  have sd := rs_dn p0 xod.dn
  have sB : ws.length * 10 ^ a0 ≤ 10 ^ (2 + a0) := mul_pow (n12 (by omega)) (Nat.le_refl _)
  have ny : Dn D0 (10 ^ (a0 + 3)) (T - rs ws) := (nT.sub sd).upB (up_pow (add_pow (up_pow (Nat.le_refl _) (by omega)) sB) (by omega))
  have ty := tx_op (f := (· - ·)) tT so ((ny.tx (Nat.le_refl _) l0 (by omega)).fit)
  have yy : TxL D (10 ^ (a0 + 4)) (op2B (· - ·) t (sumB (o'.drop 1)) :: o'.drop 1) ((T - rs ws) :: ws) :=
   ((xod.up (Nat.pow_le_pow_right (by omega) (by omega))).cons ty (ny.upB (Nat.pow_le_pow_right (by omega) (by omega)))).dvd pD dv
  refine clo_of (xl.dvd pD dv) xx yy (by omega) (by rw [hxn, List.length_cons, hwl]; omega) (by omega) (by omega) pD (a := a0 + 4) (up_pow (Nat.le_refl _) (by omega)) (Nat.le_refl _) lD (by omega) ?_
  rw [← hx, ip_same c (by rw [hvn, List.length_cons, hwl]; omega), hx, hrx, rs]
  have : T - (T - rs ws + rs ws) = 0 := by grind
  rw [this, Rat.mul_zero]
  exact Rat.le_refl
theorem r2_Check (w : World) (s : ByteArray) (hs : s.size ≤ 1000000) : Calls Tryz.prog 36 #[.string s] w fun e w' => e = .returned (.int .i64 (qE s)) ∧ Below w.heap.size w w' := by
 have R1 := fun V => hid (r2_Read V s hs)
 clear hs
 go_enter Tryz.func36, Tryz.ntmps36
 go_wp2_with fail
 refine (R1 _).out.mono ?_; rintro e w1 ⟨hr1, hb1⟩
 obtain ⟨m, a, n, c, a', n', c', rfl, h1, h2⟩ := hr1.open
 obtain ⟨x, hx⟩ : ∃ x, qE s = x := ⟨_, rfl⟩
 have HX := hid hx
 rw [hx]
 have y2 := hid (hb1.alloc hb1.size (.cells #[.bool m, .slice a n c, .slice a' n' c'] 79))
 clear h1 h2 hr1 hb1 hx R1
 go_wp2_with fail
 go_ret
 exact ⟨by rw [HX.out]; rfl, y2.out⟩
theorem r2_CheckX (w : World) (s : ByteArray) (hs : s.size ≤ 9223372036854775807) (hl : 1000000 < s.size) : Calls Tryz.prog 36 #[.string s] w fun e w' => e = .returned (.int .i64 (qE s)) ∧ Below w.heap.size w w' := by
 have R1 := fun V => hid (r2_ReadX V s hs hl)
 clear hs hl
 go_enter Tryz.func36, Tryz.ntmps36
 go_wp2_with fail
 refine (R1 _).out.mono ?_; rintro e w1 ⟨rfl, hb1⟩
 obtain ⟨x, hx⟩ : ∃ x, qE s = x := ⟨_, rfl⟩
 have HX := hid hx
 rw [hx]
 have y2 := hid (hb1.alloc hb1.size (.cells #[.bool false, .slice none 0 0, .slice none 0 0] 79))
 clear hb1 hx R1
 go_wp2_with fail
 go_ret
 exact ⟨by rw [HX.out]; rfl, y2.out⟩
theorem r2_CheckA (w : World) (s : ByteArray) (hs : s.size ≤ 9223372036854775807) : Calls Tryz.prog 36 #[.string s] w fun e w' => e = .returned (.int .i64 (qE s)) ∧ Below w.heap.size w w' := by
 by_cases h : s.size ≤ 1000000
 ·exact r2_Check w s h
 ·exact r2_CheckX w s hs (by omega)
theorem r2_Sub (w : World) (s t : ByteArray) (hs : s.size ≤ 1000000) (ht : t.size ≤ 1000000) :
 Calls Tryz.prog 22 #[.string s, .string t] w fun e w' => e = .returned (.tuple #[.string (op2B (· - ·) s t), .int .i64 (op2E (· - ·) s t)]) ∧ Below w.heap.size w w' := by
 have R1 := fun V => hid (r2_two V s t hs ht)
 clear hs ht
 by_cases h0 : qE s = 0 ∧ qE t = 0
 ·have eB : op2B (· - ·) s t = outB (vQ s + -vQ t) := by rw [op2B, if_pos h0, Rat.sub_eq_add_neg]
  have eE : op2E (· - ·) s t = outE (vQ s + -vQ t) := by rw [op2E, if_pos h0.1, if_pos h0.2, Rat.sub_eq_add_neg]
  rw [eB, eE]
  have ds := dig_of_fits (vQ_fits h0.1)
  have dt := dig_neg (dig_of_fits (vQ_fits h0.2))
  have dl := hid ((dig_add ds dt).limbs (L := 1000000) (by omega) (by omega))
  have HO := fun V v u hp hq => hid (op_plus V v u (vQ s) (-vQ t) hp hq ds dt)
  have HG := fun V v h => hid (r2_Negative V v (vQ t) h)
  have HW := fun V v h => hid (r2_Write V v (vQ s + -vQ t) h dl.out.1 dl.out.2)
  obtain ⟨oB, hB⟩ : ∃ x, outB (vQ s + -vQ t) = x := ⟨_, rfl⟩
  obtain ⟨oE, hE⟩ : ∃ x, outE (vQ s + -vQ t) = x := ⟨_, rfl⟩
  rw [hB, hE] at HW
  rw [hB, hE]
  have H0 := hid h0
  clear eB eE ds dt dl hB hE h0
  go_enter Tryz.func22, Tryz.ntmps22
  go_wp2_with fail
  refine (R1 _).out.mono ?_; rintro e w1 ⟨⟨m, a, n, c, a', n', c', m2, b, j, d, b', j', d', rfl, hq⟩, hb1⟩
  obtain ⟨q1, q2⟩ := hq H0.out.1 H0.out.2
  rw [if_pos H0.out.1, H0.out.2]
  have b0 := hid (((Below.refl w1.heap.size w1).alloc (Nat.le_refl _) (.cells #[.bool m, .slice a n c, .slice a' n' c'] 79)).alloc (by simp) (.cells #[.bool m2, .slice b j d, .slice b' j' d'] 79))
  have Y0 := hid ((Blk.new w1 #[.bool m, .slice a n c, .slice a' n' c'] 79).alloc (.cells #[.bool m2, .slice b j d, .slice b' j' d'] 79))
  have Y1 := hid (Blk.made (w1.alloc (.cells #[.bool m, .slice a n c, .slice a' n' c'] 79)) #[.bool m2, .slice b j d, .slice b' j' d'] 79 (n := w1.heap.size + 1) (by simp))
  have y2 := hid (bnext hb1 b0.out)
  have Q1 := hid (q1.call b0.out); have Q2 := hid (q2.call b0.out)
  clear hb1 q1 q2 hq R1
  go_wp2_with fail
  obtain ⟨W, hW⟩ : ∃ W, (w1.alloc (.cells #[.bool m, .slice a n c, .slice a' n' c'] 79)).alloc (.cells #[.bool m2, .slice b j d, .slice b' j' d'] 79) = W := ⟨_, rfl⟩
  rw [hW] at Y0 Y1 y2 Q1 Q2 ⊢
  have KK : Hid (∀ w', Below W.heap.size W w' → w'.cell? ⟨w1.heap.size, 0, none⟩ = some (.bool m) ∧ w'.cell? ⟨w1.heap.size, 1, none⟩ = some (.slice a n c) ∧ w'.cell? ⟨w1.heap.size, 2, none⟩ = some (.slice a' n' c') ∧ w'.cell? ⟨w1.heap.size + 1, 0, none⟩ = some (.bool m2) ∧ w'.cell? ⟨w1.heap.size + 1, 1, none⟩ = some (.slice b j d) ∧ w'.cell? ⟨w1.heap.size + 1, 2, none⟩ = some (.slice b' j' d')) := fun w' hb =>
   ⟨(Y0.out.call hb).cell 0, (Y0.out.call hb).cell 1, (Y0.out.call hb).cell 2, (Y1.out.call hb).cell 0, (Y1.out.call hb).cell 1, (Y1.out.call hb).cell 2⟩
  clear b0 hW
  refine held_plain [0, 1] 7 (fun w' => w'.cell? ⟨w1.heap.size, 0, none⟩ = some (.bool m) ∧ w'.cell? ⟨w1.heap.size, 1, none⟩ = some (.slice a n c) ∧ w'.cell? ⟨w1.heap.size, 2, none⟩ = some (.slice a' n' c') ∧ w'.cell? ⟨w1.heap.size + 1, 0, none⟩ = some (.bool m2) ∧ w'.cell? ⟨w1.heap.size + 1, 1, none⟩ = some (.slice b j d) ∧ w'.cell? ⟨w1.heap.size + 1, 2, none⟩ = some (.slice b' j' d')) (by kernel_rfl) (by kernel_rfl) (by kernel_rfl) (by kernel_rfl) (KK.out _ (Below.refl _ _).drew) ?_
  iterate 2
   refine ⟨_, rfl, ?_⟩
   apply Exists.intro
   refine ⟨.inl ⟨by rfl, ?_⟩, ?_⟩
   ·(intro W' hW'; obtain ⟨q1, q2, q3, q4, q5, q6⟩ := hW'; go_simp; try (with_reducible rfl))
   (dsimp only [Act.put]; try simp only [List.setIfInBounds_toArray, List.set_cons_zero, List.set_cons_succ])
  refine held_one (i := 2) (by kernel_rfl) (by rfl) (by rfl) ?_
  go_wp2_with fail
  refine (HG _ _ (Q2.out.call (Below.refl _ _).drew)).out.mono ?_; rintro e w3 ⟨⟨v3, rfl, hv3⟩, hb3⟩
  have x3 := hid (show Below W.heap.size W w3 from (Below.refl _ _).drew.trans hb3)
  have N3 := hid hv3
  obtain ⟨m5, a5, n5, c5, a6, n6, c6, rfl⟩ := hv3.qv
  clear hb3 hv3
  go_wp2_with fail
  refine ⟨KK.out _ x3.out, ?_⟩
  refine held_one (i := 3) (by kernel_rfl) (by rfl) (by rfl) ?_
  go_wp2_with fail
  refine (HO _ _ _ (Q1.out.call x3.out) N3.out).out.mono ?_; rintro e w4 ⟨⟨v4, rfl, hv4⟩, hb4⟩
  have x4 := hid (bnext x3.out hb4)
  have N4 := hid hv4
  obtain ⟨m7, a7, n7, c7, a8, n8, c8, rfl⟩ := hv4.qv
  clear hb4 hv4
  go_wp2_with fail
  refine ⟨KK.out _ x4.out, ?_⟩
  refine held_one (i := 4) (by kernel_rfl) (by rfl) (by rfl) ?_
  go_wp2_with fail
  refine (HW _ _ N4.out).out.mono ?_; rintro e w5 ⟨rfl, hb5⟩
  have x5 := hid (bnext x4.out hb5)
  clear hb5
  go_wp2_with fail
  refine ⟨KK.out _ x5.out, ?_⟩
  refine held_more (is := [5, 6, 7, 8]) (g := 0) (by kernel_rfl) rfl (KK.out _ x5.out) (by kernel_rfl) ?_
  iterate 4
   refine ⟨_, rfl, ?_⟩
   apply Exists.intro
   refine ⟨.inl ⟨by rfl, ?_⟩, ?_⟩
   ·(intro W' hW'; obtain ⟨q1, q2, q3, q4, q5, q6⟩ := hW'; go_simp; try (with_reducible rfl))
   (dsimp only [Act.put]; try simp only [List.setIfInBounds_toArray, List.set_cons_zero, List.set_cons_succ])
  refine wpAnyH_done (by kernel_rfl) ?_ _
  simp only [Only]
  go_wp2_with fail
  go_ret2
  exact ⟨rfl, bnext y2.out x5.out⟩
 ·obtain ⟨n0, eB, eE⟩ := op2_err (f := (· - ·)) h0
  rw [eB, eE]
  obtain ⟨x, hx⟩ : ∃ x, (if qE s = 0 then qE t else qE s) = x := ⟨_, rfl⟩
  rw [hx] at n0 ⊢
  have q0 : (x != 0) = true := by simpa using n0
  have HX := hid hx
  clear h0 n0 eB eE hx
  go_enter Tryz.func22, Tryz.ntmps22
  go_wp2_with fail
  refine (R1 _).out.mono ?_; rintro e w1 ⟨⟨m, a, n, c, a', n', c', m2, b, j, d, b', j', d', rfl, -⟩, hb1⟩
  rw [HX.out]
  have y2 := hid ((hb1.alloc hb1.size (.cells #[.bool m, .slice a n c, .slice a' n' c'] 79)).alloc (Nat.le_trans hb1.size (by simp)) (.cells #[.bool m2, .slice b j d, .slice b' j' d'] 79))
  clear hb1
  go_wp2_with fail
  go_ret2
  exact ⟨rfl, y2.out⟩
theorem r2_Order (w : World) (v u : Value) (p q : Rat) (hp : IsQ .i64 w v p) (hq : IsQ .i64 w u q) (dp : Dig 4000 p) (dq : Dig 4000 q) :
 Calls Tryz.prog 78 #[v, u] w fun e w' => e = .returned (.int .i64 (ordQ p q)) ∧ Below w.heap.size w w' := by
 have HO := fun V v u hp hq => hid (op_plus V v u p (-q) hp hq dp (dig_neg dq))
 have HG := fun V v h => hid (r2_Negative V v q h)
 have HP := hid hp; have HQ := hid hq
 obtain ⟨m, a, n, c, a', n', c', rfl⟩ := hp.qv
 obtain ⟨m2, b, j, d, b', j', d', rfl⟩ := hq.qv
 rw [show ordQ p q = sgnQ (p + -q) by rw [ordQ, Rat.sub_eq_add_neg]]
 obtain ⟨z, hz⟩ : ∃ z, p + -q = z := ⟨_, rfl⟩
 simp only [hz] at HO
 rw [hz]
 clear hp hq dp dq hz
 go_enter Tryz.func78, Tryz.ntmps78
 go_upto_region 1 with fail
 obtain ⟨W, hW⟩ : ∃ W, (w.alloc (.cells #[.bool m, .slice a n c, .slice a' n' c'] 79)).alloc (.cells #[.bool m2, .slice b j d, .slice b' j' d'] 79) = W := ⟨_, rfl⟩
 have Y0 : Blk W w.heap.size #[.bool m, .slice a n c, .slice a' n' c'] 79 := by rw [← hW]; exact (Blk.new w _ _).alloc _
 have Y1 : Blk W (w.heap.size + 1) #[.bool m2, .slice b j d, .slice b' j' d'] 79 := by rw [← hW]; exact Blk.made _ _ _ (by simp)
 have y0 : Below w.heap.size w W := by rw [← hW]; exact ((Below.refl _ _).alloc (Nat.le_refl _) _).alloc (by simp) _
 rw [hW]
 have KK : Hid (∀ w', Below W.heap.size W w' → w'.cell? ⟨w.heap.size, 0, none⟩ = some (.bool m) ∧ w'.cell? ⟨w.heap.size, 1, none⟩ = some (.slice a n c) ∧ w'.cell? ⟨w.heap.size, 2, none⟩ = some (.slice a' n' c') ∧ w'.cell? ⟨w.heap.size + 1, 0, none⟩ = some (.bool m2) ∧ w'.cell? ⟨w.heap.size + 1, 1, none⟩ = some (.slice b j d) ∧ w'.cell? ⟨w.heap.size + 1, 2, none⟩ = some (.slice b' j' d')) := fun w' hb =>
  ⟨(Y0.call hb).cell 0, (Y0.call hb).cell 1, (Y0.call hb).cell 2, (Y1.call hb).cell 0, (Y1.call hb).cell 1, (Y1.call hb).cell 2⟩
 have Q1 := hid (HP.out.call y0); have Q2 := hid (HQ.out.call y0)
 have HY := hid y0
 clear Y0 Y1 y0 hW
 go_cut [5] (fun s5 wx => ∃ (g : Nat) (a5 : Option Addr) (n5 c5 : Nat) (a6 : Option Addr) (n6 c6 : Nat), s5 = .pointer (some ⟨g, 0, none⟩) ∧ Hid (Blk wx g #[.bool (decide (z.num < 0)), .slice a5 n5 c5, .slice a6 n6 c6] 79) ∧ Hid (n5 = (limbs z.num.natAbs).length) ∧ Hid (Below W.heap.size W wx))
 case first =>
  refine held_plain [0, 1] 4 (fun w' => w'.cell? ⟨w.heap.size, 0, none⟩ = some (.bool m) ∧ w'.cell? ⟨w.heap.size, 1, none⟩ = some (.slice a n c) ∧ w'.cell? ⟨w.heap.size, 2, none⟩ = some (.slice a' n' c') ∧ w'.cell? ⟨w.heap.size + 1, 0, none⟩ = some (.bool m2) ∧ w'.cell? ⟨w.heap.size + 1, 1, none⟩ = some (.slice b j d) ∧ w'.cell? ⟨w.heap.size + 1, 2, none⟩ = some (.slice b' j' d')) (by kernel_rfl) (by kernel_rfl) (by kernel_rfl) (by kernel_rfl) (KK.out _ (Below.refl _ _).drew) ?_
  iterate 2
   refine ⟨_, rfl, ?_⟩
   apply Exists.intro
   refine ⟨.inl ⟨by rfl, ?_⟩, ?_⟩
   ·(intro W' hW'; obtain ⟨q1, q2, q3, q4, q5, q6⟩ := hW'; go_simp; try (with_reducible rfl))
   (dsimp only [Act.put]; try simp only [List.setIfInBounds_toArray, List.set_cons_zero, List.set_cons_succ])
  refine held_two (i := 2) (j := 4) (by kernel_rfl) (by rfl) (by rfl) (by rfl) (by rfl) ?_ ?_
  ·go_wp2_with fail
   refine (HG _ _ (Q2.out.call (Below.refl _ _).drew)).out.mono ?_; rintro e w3 ⟨⟨v3, rfl, hv3⟩, hb3⟩
   have x3 := hid (show Below W.heap.size W w3 from (Below.refl _ _).drew.trans hb3)
   have N3 := hid hv3
   obtain ⟨m5, a5, n5, c5, a6, n6, c6, rfl⟩ := hv3.qv
   clear hb3 hv3
   go_wp2_with fail
   refine ⟨KK.out _ x3.out, ?_⟩
   refine held_two (i := 3) (j := 4) (by kernel_rfl) (by rfl) (by rfl) (by rfl) (by rfl) ?_ ?_
   ·go_wp2_with fail
    refine (HO _ _ _ (Q1.out.call x3.out) N3.out).out.mono ?_; rintro e w4 ⟨⟨v4, rfl, hv4⟩, hb4⟩
    have x4 := hid (bnext x3.out hb4)
    obtain ⟨N, D, rfl, h1, h2⟩ := hv4.ex
    obtain ⟨a7, c7, rfl, -⟩ := h1.openI
    obtain ⟨a8, c8, rfl, -⟩ := h2.openI
    clear hb4 hv4 h1 h2
    go_wp2_with fail
    refine ⟨KK.out _ x4.out, ?_⟩
    refine held_one (i := 4) (by kernel_rfl) (by rfl) (by rfl) ?_
    go_wp2_with fail
    refine ⟨KK.out _ (x4.out.alloc x4.out.size _), ?_⟩
    refine held_one (i := 5) (by kernel_rfl) (by rfl) (by rfl) ?_
    go_wp2_with fail
    refine ⟨KK.out _ (x4.out.alloc x4.out.size _), ?_⟩
    refine wpAnyH_done (by kernel_rfl) ?_ _
    simp only [Only]
    go_wp2_with fail
    go_meet
    exact ⟨_, _, _, _, _, _, _, rfl, Blk.new w4 _ _, rfl, x4.out.alloc x4.out.size _⟩
   ·go_wp2_with fail
    have A3 := hid (x3.out.alloc x3.out.size (.cells #[.bool false, .slice none 0 0, .slice none 0 0] 79))
    have b3 := hid (Blk.new w3 #[.bool false, .slice none 0 0, .slice none 0 0] 79)
    have n3 := hid (N3.out.call ((Below.refl _ _).alloc (Nat.le_refl _) (.cells #[.bool false, .slice none 0 0, .slice none 0 0] 79)))
    refine ⟨KK.out _ A3.out, ?_⟩
    refine held_one (i := 3) (by kernel_rfl) (by rfl) (by rfl) ?_
    go_wp2_with fail
    refine (HO _ _ _ (Q1.out.call A3.out) n3.out).out.mono ?_; rintro e w4 ⟨⟨v4, rfl, hv4⟩, hb4⟩
    have x4 := hid (bnext A3.out hb4)
    have b4 := hid (b3.out.call hb4)
    obtain ⟨N, D, rfl, h1, h2⟩ := hv4.ex
    obtain ⟨a7, c7, rfl, -⟩ := h1.openI
    obtain ⟨a8, c8, rfl, -⟩ := h2.openI
    have t0 := b4.out.cell 0
    have t1 := b4.out.cell 1
    have t2 := b4.out.cell 2
    have t3 := b4.out.free 0
    have t4 := b4.out.free 1
    have t5 := b4.out.free 2
    simp at t0 t1 t2
    have ge := hid (show W.heap.size ≤ w3.heap.size from x3.out.size)
    obtain ⟨k7, hk7⟩ : ∃ k, (limbs z.num.natAbs).length = k := ⟨_, rfl⟩
    obtain ⟨k8, hk8⟩ : ∃ k, (limbs z.den).length = k := ⟨_, rfl⟩
    obtain ⟨mz, hmz⟩ : ∃ m, decide (z.num < 0) = m := ⟨_, rfl⟩
    rw [hk7, hk8, hmz]
    have HK7 := hid hk7; have HMZ := hid hmz
    clear hb4 hv4 h1 h2 hk7 hk8 hmz
    go_wp2_with fail
    refine ⟨KK.out _ x4.out, ?_⟩
    refine held_one (i := 5) (by kernel_rfl) (by rfl) (by rfl) ?_
    go_wp2_with fail
    obtain ⟨s1, s2⟩ := set3 b4.out mz a7 a8 k7 c7 k8 c8
    have x5 := hid (below_set (below_set (below_set x4.out (i := 0) ge.out (.bool mz)) (i := 1) ge.out (.slice a7 k7 c7)) (i := 2) ge.out (.slice a8 k8 c8))
    have S2 := hid s2
    clear s1 s2 t0 t1 t2 t3 t4 t5
    refine ⟨KK.out _ x5.out, ?_⟩
    refine wpAnyH_done (by kernel_rfl) ?_ _
    simp only [Only]
    go_wp2_with fail
    go_meet
    exact ⟨_, _, _, _, _, _, _, rfl, by rw [HMZ.out]; exact S2, HK7.out.symm, x5⟩
  ·go_wp2_with fail
   have A0 := hid (show Below W.heap.size W (W.alloc (.cells #[.bool false, .slice none 0 0, .slice none 0 0] 79)).drew from ((Below.refl _ _).alloc (Nat.le_refl _) _).drew)
   have b0 := hid (show Blk (W.alloc (.cells #[.bool false, .slice none 0 0, .slice none 0 0] 79)).drew W.heap.size #[.bool false, .slice none 0 0, .slice none 0 0] 79 from Blk.new W _ _)
   refine ⟨KK.out _ A0.out, ?_⟩
   refine held_one (i := 2) (by kernel_rfl) (by rfl) (by rfl) ?_
   go_wp2_with fail
   refine (HG _ _ (Q2.out.call A0.out)).out.mono ?_; rintro e w3 ⟨⟨v3, rfl, hv3⟩, hb3⟩
   have x3 := hid (A0.out.trans (hb3.mono A0.out.size))
   have b3 := hid (b0.out.call hb3)
   have N3 := hid hv3
   obtain ⟨m5, a5, n5, c5, a6, n6, c6, rfl⟩ := hv3.qv
   clear hb3 hv3
   go_wp2_with fail
   refine ⟨KK.out _ x3.out, ?_⟩
   refine held_one (i := 3) (by kernel_rfl) (by rfl) (by rfl) ?_
   go_wp2_with fail
   refine (HO _ _ _ (Q1.out.call x3.out) N3.out).out.mono ?_; rintro e w4 ⟨⟨v4, rfl, hv4⟩, hb4⟩
   have x4 := hid (bnext x3.out hb4)
   have b4 := hid (b3.out.call hb4)
   obtain ⟨N, D, rfl, h1, h2⟩ := hv4.ex
   obtain ⟨a7, c7, rfl, -⟩ := h1.openI
   obtain ⟨a8, c8, rfl, -⟩ := h2.openI
   have t0 := b4.out.cell 0
   have t1 := b4.out.cell 1
   have t2 := b4.out.cell 2
   have t3 := b4.out.free 0
   have t4 := b4.out.free 1
   have t5 := b4.out.free 2
   simp at t0 t1 t2
   have ge := hid (Nat.le_refl W.heap.size)
   obtain ⟨k7, hk7⟩ : ∃ k, (limbs z.num.natAbs).length = k := ⟨_, rfl⟩
   obtain ⟨k8, hk8⟩ : ∃ k, (limbs z.den).length = k := ⟨_, rfl⟩
   obtain ⟨mz, hmz⟩ : ∃ m, decide (z.num < 0) = m := ⟨_, rfl⟩
   rw [hk7, hk8, hmz]
   have HK7 := hid hk7; have HMZ := hid hmz
   clear hb4 hv4 h1 h2 hk7 hk8 hmz
   go_wp2_with fail
   refine ⟨KK.out _ x4.out, ?_⟩
   refine held_one (i := 5) (by kernel_rfl) (by rfl) (by rfl) ?_
   go_wp2_with fail
   obtain ⟨s1, s2⟩ := set3 b4.out mz a7 a8 k7 c7 k8 c8
   have x5 := hid (below_set (below_set (below_set x4.out (i := 0) ge.out (.bool mz)) (i := 1) ge.out (.slice a7 k7 c7)) (i := 2) ge.out (.slice a8 k8 c8))
   have S2 := hid s2
   clear s1 s2 t0 t1 t2 t3 t4 t5
   refine ⟨KK.out _ x5.out, ?_⟩
   refine wpAnyH_done (by kernel_rfl) ?_ _
   simp only [Only]
   go_wp2_with fail
   go_meet
   exact ⟨_, _, _, _, _, _, _, rfl, by rw [HMZ.out]; exact S2, HK7.out.symm, x5⟩
 case rest =>
  obtain ⟨g, a5, n5, c5, a6, n6, c6, rfl, hB, hn, hW⟩ := hcut
  have r0 := hB.out.cell 0
  have r1 := hB.out.cell 1
  simp at r0 r1
  have yz := hid (bnext HY.out hW.out)
  by_cases h1 : z.num = 0
  ·have es : Hid (sgnQ z = 0) := by show sgnQ z = 0; rw [sgnQ, if_pos h1]
   obtain rfl : n5 = 0 := by rw [hn.out, h1]; exact limbs_none.2 rfl
   clear h1
   go_wp2_with fail
   go_ret
   exact ⟨by rw [es.out]; rfl, yz.out⟩
  ·have h2 : n5 ≠ 0 := fun e => h1 (by rw [hn.out] at e; have := limbs_none.1 e; omega)
   have q1 : ((n5 : Int) == 0) = false := by simp; omega
   obtain ⟨mm, hmm⟩ : ∃ m, decide (z.num < 0) = m := ⟨_, rfl⟩
   have es : sgnQ z = if mm = true then -1 else 1 := by
    rw [sgnQ, if_neg h1, ← hmm]; simp
   have ES := hid es
   rw [hmm] at r0
   clear h1 h2 es hmm
   cases mm
   all_goals
    go_wp2_with fail
    go_ret
    exact ⟨by rw [ES.out]; rfl, yz.out⟩
theorem r2_Cmp (w : World) (s t : ByteArray) (hs : s.size ≤ 1000000) (ht : t.size ≤ 1000000) :
 Calls Tryz.prog 26 #[.string s, .string t] w fun e w' => e = .returned (.tuple #[.int .i64 (cmB s t), .int .i64 (cmE s t)]) ∧ Below w.heap.size w w' := by
 have R1 := fun V => hid (r2_two V s t hs ht)
 clear hs ht
 by_cases h0 : qE s = 0 ∧ qE t = 0
 ·have eB : cmB s t = ordQ (vQ s) (vQ t) := by rw [cmB, if_pos h0]
  have eE : cmE s t = 0 := by rw [cmE, if_pos h0.1, h0.2]
  rw [eB, eE]
  have ds := dig_of_fits (vQ_fits h0.1)
  have dt := dig_of_fits (vQ_fits h0.2)
  have HO := fun V v u hp hq => hid (r2_Order V v u (vQ s) (vQ t) hp hq ds dt)
  obtain ⟨o, ho⟩ : ∃ x, ordQ (vQ s) (vQ t) = x := ⟨_, rfl⟩
  rw [ho] at HO ⊢
  have H0 := hid h0
  clear eB eE ds dt ho h0
  go_enter Tryz.func26, Tryz.ntmps26
  go_wp2_with fail
  refine (R1 _).out.mono ?_; rintro e w1 ⟨⟨m, a, n, c, a', n', c', m2, b, j, d, b', j', d', rfl, hq⟩, hb1⟩
  obtain ⟨q1, q2⟩ := hq H0.out.1 H0.out.2
  rw [if_pos H0.out.1, H0.out.2]
  have b0 := ((Below.refl w1.heap.size w1).alloc (Nat.le_refl _) (.cells #[.bool m, .slice a n c, .slice a' n' c'] 79)).alloc (by simp) (.cells #[.bool m2, .slice b j d, .slice b' j' d'] 79)
  have y2 := hid (bnext hb1 b0)
  have H1 := HO _ _ _ (q1.call b0) (q2.call b0)
  clear hb1 q1 q2 hq b0 HO R1
  go_wp2_with fail
  refine H1.out.mono ?_; rintro e w2 ⟨rfl, hb2⟩
  have y3 := hid (bnext y2.out hb2)
  clear hb2 H1
  go_wp2_with fail
  go_ret2
  exact ⟨rfl, y3.out⟩
 ·obtain ⟨n0, -, -⟩ := op2_err (f := (· - ·)) h0
  rw [cmB, if_neg h0, cmE]
  obtain ⟨x, hx⟩ : ∃ x, (if qE s = 0 then qE t else qE s) = x := ⟨_, rfl⟩
  rw [hx] at n0 ⊢
  have q0 : (x != 0) = true := by simpa using n0
  have HX := hid hx
  clear h0 n0 hx
  go_enter Tryz.func26, Tryz.ntmps26
  go_wp2_with fail
  refine (R1 _).out.mono ?_; rintro e w1 ⟨⟨m, a, n, c, a', n', c', m2, b, j, d, b', j', d', rfl, -⟩, hb1⟩
  rw [HX.out]
  have y2 := hid ((hb1.alloc hb1.size (.cells #[.bool m, .slice a n c, .slice a' n' c'] 79)).alloc (Nat.le_trans hb1.size (by simp)) (.cells #[.bool m2, .slice b j d, .slice b' j' d'] 79))
  clear hb1
  go_wp2_with fail
  go_ret2
  exact ⟨rfl, y2.out⟩
end Go.Proofs.YtlimaehdmcnjaaaGreatDoor
