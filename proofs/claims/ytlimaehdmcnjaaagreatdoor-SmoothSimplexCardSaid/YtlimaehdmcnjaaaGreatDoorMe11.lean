/- Texts that the proof rests on, merged: So16, So10, KsI, Slw, Sto, R2x, R2y, Ssh, PkP, Ssx, Ssy. -/
import Derived.Test.YtlimaehdmcnjaaaGreatDoorMe10
set_option linter.unusedVariables false
set_option linter.unusedSimpArgs false
set_option linter.unusedSectionVars false
set_option maxRecDepth 100000
set_option maxHeartbeats 8000000
namespace Go.Proofs.YtlimaehdmcnjaaaGreatDoor
open Go.RowKit
open Go.Shelf
open Go.Lib (decDigits nDigits)
theorem rd_bad1 (w : World) (v : Value) (l : List ByteArray) (hv : Row w v (strs l)) (hs : ∀ s ∈ l, s.size ≤ 1000000) (hL : Lay w) (hve : vecE l ≠ 0) :
 Calls Tryz.prog 23 #[v] w fun e w' => (∃ u, e = .returned (.tuple #[u, .int .i64 (rdE l)]) ∧ Row w' u (zs (rdR' l))) ∧ Below w.heap.size w w' := by
 have HB := hid (s_read w v l hv hs hL)
 obtain ⟨e1, e2⟩ := rdE_bad hve
 rw [e1, e2]
 have t2 : (vecE l == 0) = false := by simpa using hve
 have t3 : (vecE l != 0) = true := by simpa using hve
 have HV := hid hve
 obtain ⟨a, c, rfl, -, -, -⟩ := hv.openS
 obtain ⟨N, hN⟩ : ∃ n, l.length = n := ⟨_, rfl⟩
 rw [hN] at HB ⊢
 obtain ⟨E, hE⟩ : ∃ x, vecE l = x := ⟨_, rfl⟩
 rw [hE] at HB t2 t3 HV ⊢
 clear hv hs hL hN hve hE e1 e2
 go_enter Tryz.func23, Tryz.ntmps23
 go_wp2_with fail
 refine HB.out.mono ?_; rintro e w1 ⟨⟨u, rfl, -, hu⟩, hb1⟩
 obtain rfl := hu HV.out
 have y1 := hid hb1
 clear hb1 hu
 go_wp2_with fail
 go_ret2
 exact ⟨⟨.slice none 0 0, rfl, Row.nil _⟩, y1.out⟩
theorem rd_bad2 (w : World) (v : Value) (l : List ByteArray) (hv : Row w v (strs l)) (hs : ∀ s ∈ l, s.size ≤ 1000000) (hL : Lay w) (hve : vecE l = 0) (hbad : (rs (l.map vQ)).den ≠ 1 ∨ (l.map vQ).any (farB bigR) = true) :
 Calls Tryz.prog 23 #[v] w fun e w' => (∃ u, e = .returned (.tuple #[u, .int .i64 (if (rs (l.map vQ)).den = 1 then 2 else 15)]) ∧ Row w' u (zs [])) ∧ Below w.heap.size w w' := by
 have HB := hid (s_read w v l hv hs hL)
 rw [hve] at HB
 obtain ⟨g1, g2, hq0⟩ := vecE_ok hve
 obtain ⟨N, hN⟩ : ∃ n, l.length = n := ⟨_, rfl⟩
 have hdq := dig_vqs hve
 have hlen : (l.map vQ).length = N := by rw [List.length_map, hN]
 obtain ⟨qs, hqs⟩ : ∃ qs, l.map vQ = qs := ⟨_, rfl⟩
 rw [hqs] at HB hbad hdq hlen ⊢
 have HSm := fun V v h => hid (s_sum V w.heap.size v qs h (by omega) hdq)
 have HON := fun V v h => hid (l_One V v (rs qs).den h)
 have HSl := fun V => hid (s_small V 1000000000000 (by omega))
 have lB : Lim bigR := Lim.of (K := 20) ⟨by unfold bigR; rw [Rat.num_natCast]; decide, by unfold bigR; rw [Rat.den_natCast]; decide⟩ (by omega)
 have HCF := fun V v g hv hg => hid (s_ContF V w.heap.size v qs bigR g hv (by omega) (fun q hq => Lim.of (hdq q hq) (by omega)) hg lB)
 have HN := hid hlen
 have HBAD := hid hbad
 obtain ⟨a, c, rfl, -, -, -⟩ := hv.openS
 rw [hN] at HB ⊢
 clear hv hs hL hN g1 g2 hdq hlen lB hve hq0 hqs hbad
 go_enter Tryz.func23, Tryz.ntmps23
 go_wp2_with fail
 refine HB.out.mono ?_; rintro e w1 ⟨⟨u, rfl, hu, -⟩, hb1⟩
 have hu1 := hu trivial
 have y1 := hid hb1
 have RV := hid hu1
 obtain ⟨av, cv, rfl, -, -⟩ := hu1.slice
 rw [HN.out] at RV ⊢
 clear hb1 hu hu1
 go_wp2_with fail
 refine (HSm _ _ RV.out).out.mono ?_; rintro e w2 ⟨⟨u2, rfl, hu2⟩, hb2⟩
 obtain ⟨m2, a2, n2, c2, b2, d2, e2, rfl⟩ := hu2.qv
 have Q2 := hid (hu2.call ((Below.refl w2.heap.size w2).alloc (Nat.le_refl _) (.cells #[.bool m2, .slice a2 n2 c2, .slice b2 d2 e2] 57)))
 have X2 := Blk.new w2 #[.bool m2, .slice a2 n2 c2, .slice b2 d2 e2] 57
 have z2 := hid (bnext hb2 ((Below.refl w2.heap.size w2).alloc (Nat.le_refl _) (.cells #[.bool m2, .slice a2 n2 c2, .slice b2 d2 e2] 57)))
 obtain ⟨g6, hg6⟩ : ∃ g, w2.heap.size = g := ⟨_, rfl⟩
 obtain ⟨W2, hW2⟩ : ∃ x, w2.alloc (.cells #[.bool m2, .slice a2 n2 c2, .slice b2 d2 e2] 57) = x := ⟨_, rfl⟩
 rw [hW2] at Q2 z2 X2
 rw [hg6] at X2
 have r2 := X2.cell 2
 simp at r2
 clear hb2 hu2 X2
 go_wp2_with fail
 clear hW2 hg6 r2
 refine (HON _ _ (isQ_partsU Q2.out).2).out.mono ?_; rintro e w3 ⟨rfl, rfl⟩
 by_cases hden : (rs qs).den = 1
 ·have hone : isO (rs qs).den = true := by rw [isO_den, hden]; rfl
  have HDN := hid hden
  have hany : qs.any (farB bigR) = true := HBAD.out.resolve_left fun h => h hden
  rw [hany] at HCF
  rw [hone]
  clear hone hany hden
  go_wp2_with fail
  refine (HSl _).out.mono ?_; rintro e w3 ⟨⟨u3, rfl, hu3⟩, hb3⟩
  obtain ⟨m3, a3, n3, c3, b3, d3, e3, rfl⟩ := hu3.qv
  have A3 := (Below.refl w3.heap.size w3).alloc (Nat.le_refl _) (.cells #[.bool m3, .slice a3 n3 c3, .slice b3 d3 e3] 57)
  have z3 := hid (bnext z2.out (bnext hb3 A3))
  have FH := hid (FB.new hu3)
  obtain ⟨g7, hg7⟩ : ∃ g, w3.heap.size = g := ⟨_, rfl⟩
  obtain ⟨W3, hW3⟩ : ∃ x, w3.alloc (.cells #[.bool m3, .slice a3 n3 c3, .slice b3 d3 e3] 57) = x := ⟨_, rfl⟩
  rw [hW3] at z3 FH
  rw [hg7] at FH
  clear hb3 hu3 A3 Q2 z2
  go_wp2_with fail
  clear hW3 hg7
  refine (HCF _ _ _ (RV.out.call z3.out) FH.out).out.mono ?_; rintro e w4 ⟨rfl, hb4⟩
  have z4 := hid (bnext y1.out (bnext z3.out hb4))
  clear hb4
  go_wp2_with fail
  go_ret2
  exact ⟨⟨_, rfl, Row.nil _⟩, z4.out⟩
 ·have hone : isO (rs qs).den = false := by rw [isO_den]; exact decide_eq_false hden
  have HDN := hid hden
  have z4 := hid (bnext y1.out z2.out)
  rw [hone]
  clear hone hden
  go_wp2_with fail
  go_ret2
  exact ⟨⟨_, rfl, Row.nil _⟩, z4.out⟩
theorem s_Round (w : World) (v : Value) (l : List ByteArray) (hv : Row w v (strs l)) (hs : ∀ s ∈ l, s.size ≤ 1000000) (hl : l.length ≤ 12) (hL : Lay w) :
 Calls Tryz.prog 23 #[v] w fun e w' => (∃ u, e = .returned (.tuple #[u, .int .i64 (rdE l)]) ∧ Row w' u (zs (rdR' l))) ∧ Below w.heap.size w w' := by
 by_cases hve : vecE l = 0
 ·by_cases hbad : (rs (l.map vQ)).den ≠ 1 ∨ (l.map vQ).any (farB bigR) = true
  ·have e0 : rdE l = if (rs (l.map vQ)).den = 1 then 2 else 15 := by
    unfold rdE
    rw [if_pos hve]
    by_cases hd : (rs (l.map vQ)).den = 1
    ·rw [if_pos hd, if_pos hd, if_pos]
     have h := hbad.resolve_left fun h => h hd
     rw [← h]
     congr 1
     funext q
     exact farB_is.symm
    ·rw [if_neg hd, if_neg hd]
   have e1 : rdR' l = [] := by
    unfold rdR'
    rw [if_neg]
    rw [e0]
    split <;> decide
   rw [e0, e1]
   exact rd_bad2 w v l hv hs hL hve hbad
  ·have hd : (rs (l.map vQ)).den = 1 := Decidable.byContradiction fun h => hbad (.inl h)
   have hf : ∀ q ∈ l.map vQ, ¬ (bigR < q ∨ q < -bigR) := fun q hq h => hbad (.inr (List.any_eq_true.2 ⟨q, hq, by rw [farB_is]; exact decide_eq_true h⟩))
   have e0 : rdE l = 0 := by
    unfold rdE
    rw [if_pos hve, if_pos hd, if_neg]
    intro h
    obtain ⟨q, hq, h2⟩ := List.any_eq_true.1 h
    exact hf q hq (by simpa using h2)
   have e1 : rdR' l = rdL (l.map vQ) (rdM (l.map vQ)) := by unfold rdR'; rw [if_pos e0]
   rw [e0, e1]
   exact rd_main w v l hv hs hl hL hve hd hf
 ·exact rd_bad1 w v l hv hs hL hve
theorem info_blk : (Tryz.prog.info? 73).map (fun i => (i.zero, i.size, i.bytes)) = some (some (.agg #[.bool false, .slice none 0 0, .slice none 0 0, .int .i64 0]), 4, 64) := by kernel_rfl
theorem noz_blk : NoKL .u64 (Value.cells (.agg #[.bool false, .slice none 0 0, .slice none 0 0, .int .i64 0])).toList := by intro x hx; simp [Value.cells] at hx
theorem nok4 (m : Bool) (a b : Option Addr) (n p n' p' : Nat) (k : Int) : NoKL .u64 [[Value.bool m, .slice a n p, .slice b n' p', .int .i64 k]].flatten := by intro x hx; simp at hx
theorem one4 (m : Bool) (a b : Option Addr) (n p n' p' : Nat) (k : Int) : ∀ u ∈ [[Value.bool m, .slice a n p, .slice b n' p', .int .i64 k]].flatten, u.oneCell' = true := by intro u hu; simp at hu; rcases hu with rfl | rfl | rfl | rfl <;> rfl
theorem len4 (x y z t : Value) : ∀ d ∈ [[x, y, z, t]], d.length = 4 := by intro d hd; simp at hd; subst hd; rfl
theorem news4 {W : World} {g : Nat} {x y z t : Value} {ty : TypeId} (h : Blk W g #[x, y, z, t] ty) : ∀ j u, [[x, y, z, t]].flatten[j]? = some u → W.cell? ((⟨g, 0, none⟩ : Addr).add j) = some u := fun j u hj => by
 rw [Addr.add_lit, Nat.zero_add, h.cell]
 simpa using hj
theorem BRow.app {B : Nat} {W W' : World} {v' : Value} {cs : List (List Value)} {bs : List (Rat × Nat)} {c : List Value} {b : Rat × Nat} (hl : cs.length = bs.length) (h : ∀ (i : Nat) (b : Rat × Nat), bs[i]? = some b → ∃ c, cs[i]? = some c ∧ BC W c b) (hk : KRow .u64 73 4 B W' v' (cs ++ [c])) (hkeep : KeepK .u64 W W') (hc : BC W c b) : BRow B W' v' (bs ++ [b]) := by
 refine ⟨cs ++ [c], hk, by simp [hl], fun i x hx => ?_⟩
 by_cases hi : i < bs.length
 ·rw [List.getElem?_append_left hi] at hx
  rw [List.getElem?_append_left (by omega)]
  obtain ⟨d, h1, h2⟩ := h i x hx
  exact ⟨d, h1, h2.keep hkeep⟩
 ·have hl2 := (List.getElem?_eq_some_iff.1 hx).1
  rw [List.length_append, List.length_singleton] at hl2
  obtain rfl : i = bs.length := by omega
  rw [List.getElem?_append_right (Nat.le_refl _), Nat.sub_self] at hx
  rw [List.getElem?_append_right (by omega), hl, Nat.sub_self]
  obtain rfl : b = x := by simpa using hx
  exact ⟨c, rfl, hc.keep hkeep⟩
theorem QL.append {k : IntKind} {W : World} {cs cr : List (List Value)} {qs rs : List Rat} (h : QL k W cs qs) (h2 : QL k W cr rs) : QL k W (cs ++ cr) (qs ++ rs) := by
 refine ⟨by simp [h.len, h2.len], fun i q hq => ?_⟩
 by_cases hi : i < qs.length
 ·rw [List.getElem?_append_left hi] at hq
  rw [List.getElem?_append_left (by rw [h.len]; exact hi)]
  exact h.at_ i q hq
 ·rw [List.getElem?_append_right (by omega)] at hq
  rw [List.getElem?_append_right (by rw [h.len]; omega), h.len]
  exact h2.at_ _ q hq
def outL (st : List (Rat × Nat)) : List Rat := st.flatMap fun b => List.replicate b.2 (bm b)
theorem outL_take {st : List (Rat × Nat)} {i : Nat} {b : Rat × Nat} (h : st[i]? = some b) : outL (st.take (i + 1)) = outL (st.take i) ++ List.replicate b.2 (bm b) := by
 unfold outL
 rw [List.take_add_one, h, Option.toList_some, List.flatMap_append]
 simp
theorem mn_is {qs : List Rat} {st : List (Rat × Nat)} (h : st.reverse = pv qs) : mnL qs = outL st := by
 unfold mnL pvx outL
 rw [← h, List.reverse_reverse]
theorem pv_snoc {qs : List Rat} {i : Nat} {x : Rat} (h : qs[i]? = some x) : pv (qs.take (i + 1)) = pv1 (x, 1) (pv (qs.take i)) := by
 unfold pv
 rw [List.take_add_one, h, Option.toList_some, List.foldl_append]; rfl
structure StI (st : List (Rat × Nat)) (i : Nat) : Prop where
 all : ∀ b ∈ st, 0 < b.2 ∧ Dig (4001 * b.2 - 1) b.1
 sum : (st.map fun b => b.2).sum = i
theorem StI.nil : StI [] 0 := ⟨fun b hb => (by cases hb), rfl⟩
theorem StI.push {st : List (Rat × Nat)} {i : Nat} {x : Rat} (h : StI st i) (hx : Dig 4000 x) : StI (st ++ [(x, 1)]) (i + 1) := by
 refine ⟨fun b hb => ?_, by rw [List.map_append, List.sum_append, h.sum]; rfl⟩
 rcases List.mem_append.1 hb with hb | hb
 ·exact h.all b hb
 ·obtain rfl : b = (x, 1) := by simpa using hb
  exact ⟨Nat.one_pos, hx.up (by omega)⟩
theorem StI.merge {s : List (Rat × Nat)} {a b : Rat × Nat} {i : Nat} (h : StI (s ++ [a] ++ [b]) i) : StI (s ++ [(a.1 + b.1, a.2 + b.2)]) i := by
 refine ⟨fun c hc => ?_, ?_⟩
 ·rcases List.mem_append.1 hc with hc | hc
  ·exact h.all c (by simp [hc])
  ·obtain rfl : c = (a.1 + b.1, a.2 + b.2) := by simpa using hc
   obtain ⟨h1, h2⟩ := h.all a (by simp)
   obtain ⟨h3, h4⟩ := h.all b (by simp)
   exact ⟨by dsimp only; omega, (dig_add h2 h4).up (by dsimp only; omega)⟩
 ·have := h.sum
  simp only [List.map_append, List.sum_append, List.map_cons, List.map_nil, List.sum_cons, List.sum_nil] at this ⊢
  omega
theorem sum_mem : ∀ {l : List Nat} {x : Nat}, x ∈ l → x ≤ l.sum
 | y :: l, x, h => by
  rw [List.sum_cons]
  rcases List.mem_cons.1 h with rfl | h
  ·omega
  ·have := sum_mem h; omega
theorem StI.le {st : List (Rat × Nat)} {i : Nat} {b : Rat × Nat} (h : StI st i) (hb : b ∈ st) : b.2 ≤ i := by
 rw [← h.sum]
 exact sum_mem (List.mem_map.2 ⟨b, hb, rfl⟩)
theorem StI.len {st : List (Rat × Nat)} {i : Nat} (h : StI st i) : st.length ≤ i := by
 rw [← h.sum]
 have h1 := h.all
 clear h
 induction st with
 | nil => simp
 | cons b st ih =>
  have := ih fun c hc => h1 c (by simp [hc])
  have := (h1 b (by simp)).1
  rw [List.map_cons, List.sum_cons, List.length_cons]; omega
theorem StI.lim {st : List (Rat × Nat)} {i : Nat} {b : Rat × Nat} (h : StI st i) (hi : i ≤ 64) (hb : b ∈ st) : Lim b.1 := Lim.of (h.all b hb).2 (by have := h.le hb; omega)
theorem bm_dig {st : List (Rat × Nat)} {i : Nat} {b : Rat × Nat} (h : StI st i) (hi : i ≤ 64) (hb : b ∈ st) : Dig 300000 (bm b) := by
 obtain ⟨h1, h2⟩ := h.all b hb
 have h3 := h.le hb
 have dK : Dig 2 ((b.2 : Nat) : Rat) := ⟨by rw [Rat.num_natCast]; simp; omega, by rw [Rat.den_natCast]; omega⟩
 unfold bm
 rw [Rat.div_def]
 exact (dig_mul h2 (dig_inv (natR_ne h1) dK)).up (by omega)
theorem outL_len {st : List (Rat × Nat)} {i : Nat} (h : StI st i) : (outL st).length = i := by
 rw [← h.sum]
 unfold outL
 clear h
 induction st with
 | nil => rfl
 | cons b st ih => simp [List.flatMap_cons, ih]
theorem s_Monotone (w : World) (v : Value) (l : List ByteArray) (hv : Row w v (strs l)) (hs : ∀ s ∈ l, s.size ≤ 1000000) (hL : Lay w) :
 Calls Tryz.prog 19 #[v] w fun e w' => (∃ u, e = .returned (.tuple #[u, .int .i64 (mnE l)]) ∧ Row w' u (strs (mnR l))) ∧ Below w.heap.size w w' := by
 obtain ⟨i0, hi, hz0, hz1, hz2⟩ := info_parts info_fr
 obtain ⟨j0, hj0, hy0, hy1, hy2⟩ := info_parts info_blk
 have HR := hid (s_read w v l hv hs hL)
 have HL := hid hL
 obtain ⟨a, c, rfl, -, -, -⟩ := hv.openS
 obtain ⟨N, hN⟩ : ∃ n, l.length = n := ⟨_, rfl⟩
 rw [hN] at HR ⊢
 by_cases h0 : vecE l = 0
 case neg =>
  have e1 : mnE l = vecE l := by unfold mnE; rw [if_neg h0]
  have e2 : mnR l = [] := by unfold mnR; rw [if_neg h0]
  have t2 : (vecE l == 0) = false := by simpa using h0
  have t3 : (vecE l != 0) = true := by simpa using h0
  rw [e1, e2]
  obtain ⟨E, hE⟩ : ∃ x, vecE l = x := ⟨_, rfl⟩
  rw [hE] at HR t2 t3 ⊢
  clear hv hs hL hN h0 hE e1 e2
  go_enter Tryz.func19, Tryz.ntmps19
  go_wp2_with fail
  refine HR.out.mono ?_; rintro e w1 ⟨⟨u, rfl, -, -⟩, hb1⟩
  have y1 := hid hb1
  clear hb1
  go_wp2_with fail
  go_ret2
  exact ⟨⟨.slice none 0 0, rfl, Row.nil _⟩, y1.out⟩
 case pos =>
  have e1 : mnE l = wrE (mnL (l.map vQ)) := by unfold mnE; rw [if_pos h0]
  have e2 : mnR l = wrL (mnL (l.map vQ)) := by unfold mnR; rw [if_pos h0]
  obtain ⟨g1, g2, -⟩ := vecE_ok h0
  have hdq := dig_vqs h0
  have hlen : (l.map vQ).length = N := by rw [List.length_map, hN]
  rw [e1, e2]
  rw [h0] at HR
  obtain ⟨qs, hqs⟩ : ∃ qs, l.map vQ = qs := ⟨_, rfl⟩
  rw [hqs] at HR hdq hlen ⊢
  have HDQ := hid hdq; have HN := hid hlen; have HNN := hid (show 0 < N ∧ N ≤ 64 by omega)
  clear hv hs hL hN h0 e1 e2 g1 g2 hdq hlen hqs
  go_enter Tryz.func19, Tryz.ntmps19
  go_wp2_with fail
  refine HR.out.mono ?_; rintro e w1 ⟨⟨u, rfl, hu, -⟩, hb1⟩
  have hu := hu (by simp)
  obtain ⟨av, cv, rfl, -, -⟩ := hu.slice
  have RV := hid hu
  have y1 := hid hb1
  rw [HN.out] at RV ⊢
  clear hb1 hu
  go_wp2_with fail
  go_loopw [6, 8, 9, 23] (fun s6 s8 s9 s23 wr => ∃ (i : Nat) (st : List (Rat × Nat)), s23 = .int .i64 (i : Nat) ∧ i ≤ N ∧ Hid (st.reverse = pv (qs.take i)) ∧ Hid (StI st i) ∧ Hid (BRow w1.heap.size wr s6 st) ∧ Hid (Below w1.heap.size w1 wr)) (fun s6 s8 s9 s23 wr => N - (intOf s23).toNat)
  case atStart => exact ⟨0, [], rfl, Nat.zero_le _, rfl, StI.nil, BRow.nil _ _, Below.refl _ _⟩
  case round =>
   obtain ⟨i, st, rfl, hi', hP, hS, hO, hB⟩ := hrel
   by_cases hlt : i < N
   ·obtain ⟨x, hx⟩ : ∃ x, qs[i]? = some x := ⟨_, List.getElem?_eq_getElem (by rw [HN.out]; exact hlt)⟩
    obtain ⟨gv, mx, ax, nx, cx, bx, dx, ex, rfl, -, -, k0, k1, k2, hQx⟩ := (RV.out.call hB.out).at hx
    have HPX := hid (pv_snoc hx)
    have HSP := hid (hS.out.push (HDQ.out x (List.mem_of_getElem? hx)))
    have A1 := hid ((Below.refl wr.heap.size wr).alloc (Nat.le_refl _) (.cells #[.bool mx, .slice ax nx cx, .slice bx dx ex] 57))
    have A2 := hid (A1.out.alloc A1.out.size (.cells #[.bool mx, .slice ax nx cx, .slice bx dx ex, .int .i64 1] 73))
    have Z2 := hid (show Blk ((wr.alloc (.cells #[.bool mx, .slice ax nx cx, .slice bx dx ex] 57)).alloc (.cells #[.bool mx, .slice ax nx cx, .slice bx dx ex, .int .i64 1] 73)) (wr.heap.size + 1) #[.bool mx, .slice ax nx cx, .slice bx dx ex, .int .i64 1] 73 from Blk.made _ _ _ (by simp))
    have y2 := hid (show Below w1.heap.size w1 _ from hB.out.trans (A2.out.mono hB.out.size))
    obtain ⟨cs, hk, hcl, hcb⟩ := (hO.out.call A2.out).ex
    have HK := hid hk; have HCB := hid hcb; have HCL := hid hcl
    have HSL := hid (show st.length ≤ 64 by have := hS.out.len; have := HNN.out; omega)
    have BC2 := hid (show BC _ [.bool mx, .slice ax nx cx, .slice bx dx ex, .int .i64 1] (x, 1) from ⟨mx, ax, nx, cx, bx, dx, ex, rfl, hQx.call A2.out⟩)
    have BSZ := hid (show w1.heap.size ≤ ((wr.alloc (.cells #[.bool mx, .slice ax nx cx, .slice bx dx ex] 57)).alloc (.cells #[.bool mx, .slice ax nx cx, .slice bx dx ex, .int .i64 1] 73)).heap.size from y2.out.size)
    have f1 : (0 : Int) ≤ (i : Int) := by omega
    have f2 : (i : Int) < (N : Int) := by omega
    have wi : IntKind.i64.wrap ((i : Int) + 1) = ((i + 1 : Nat) : Int) := by have := HNN.out; rw [IntWalk.i64_in _ ⟨by omega, by omega⟩]; omega
    have HLT := hid hlt
    have LST := hid (show (st ++ [(x, 1)]).length = st.length + 1 by simp)
    obtain ⟨as6, c6, e6, -, -⟩ := hO.out.slice
    subst e6
    clear hx hQx hk hcl hcb hlt hi'
    go_wp2_with (at_builtin; refine wpList_append_krow _ .u64 rfl _ _ 71 rfl w1.heap.size 73 j0 (.agg #[.bool false, .slice none 0 0, .slice none 0 0, .int .i64 0]) 4 64 Tryz.underlying71 hj0 hy0 hy1 hy2 rfl (by decide) noz_blk _ cs rfl HK.out ⟨wr.heap.size + 1, 0, none⟩ 1 1 [[.bool mx, .slice ax nx cx, .slice bx dx ex, .int .i64 1]] rfl rfl (len4 _ _ _ _) (news4 Z2.out) (one4 _ _ _ _ _ _ _ _) (nok4 _ _ _ _ _ _ _ _) (by rw [HCL.out]; have := HSL.out; unfold maxLen; omega) (by rw [HCL.out]; have := HSL.out; omega) BSZ.out ?_
                 intro v' w3 hown hgrow hkeep hat
                 have O3 := hid (BRow.app HCL.out HCB.out hown hkeep BC2.out)
                 have B3 := hid (krow_below HK.out y2.out hgrow)
                 obtain ⟨g3, c3, rfl, -⟩ := O3.out.nz LST.out (by omega)
                 clear hown hgrow hkeep hat)
    go_loopw [6, 9] (fun s6 s9 wx => ∃ (s : List (Rat × Nat)) (b : Rat × Nat) (J g c : Nat), Hid (s.length + 1 = J) ∧ s6 = .slice (some ⟨g, 0, none⟩) J c ∧ s9 = .int .i64 (J : Nat) ∧ Hid (pv1 b s.reverse = pv (qs.take (i + 1))) ∧ Hid (StI (s ++ [b]) (i + 1)) ∧ Hid (BRow w1.heap.size wx (.slice (some ⟨g, 0, none⟩) J c) (s ++ [b])) ∧ Hid (Below w1.heap.size w1 wx)) (fun s6 s9 wx => (intOf s9).toNat)
    case atStart => exact ⟨st, (x, 1), st.length + 1, g3, c3, rfl, rfl, by rw [Int.natCast_add]; rfl, by rw [hP.out]; exact HPX.out.symm, HSP, O3, B3⟩
    case round =>
     obtain ⟨s, b, J, g, c, hJ, rfl, rfl, hT, hSt, hBr, hBx⟩ := hrel
     rcases List.eq_nil_or_concat s with rfl | ⟨s', a, rfl⟩
     ·obtain rfl : 1 = J := hJ.out
      have PN := hid (show ([b] : List (Rat × Nat)).reverse = pv (qs.take (i + 1)) from hT.out)
      have BD := hid (hBr.out.call (Below.refl _ _).drew)
      have XD := hid (hBx.out.drew)
      clear hT hJ
      go_wp2_with fail
      refine held_plain [0, 1, 2, 3, 4, 5, 6, 7, 8, 9, 10, 11, 12, 13, 14, 15, 16, 17] 0 (fun _ => True) (by kernel_rfl) (by kernel_rfl) (by kernel_rfl) (by kernel_rfl) trivial ?_
      iterate 18
       refine ⟨_, rfl, ?_⟩
       apply Exists.intro
       first
        | (refine ⟨.inl ⟨by rfl, ?_⟩, ?_⟩
           ·(intro W' hW'; clear hW'; go_simp; try (with_reducible rfl)))
        | refine ⟨.inr ⟨by rfl, rfl⟩, ?_⟩
       (dsimp only [Act.put]; try simp only [List.setIfInBounds_toArray, List.set_cons_zero, List.set_cons_succ])
      refine wpAnyH_done (by kernel_rfl) ?_ _
      simp only [Only]
      go_wp2_with fail
      go_roundw
      case rel => exact ⟨i + 1, [b], by go_num, by have := HLT.out; omega, PN, hSt, BD, XD⟩
      case measure => simp [intOf] <;> (have := HLT.out; omega)
     ·rw [List.concat_eq_append] at hJ hT hSt hBr
      obtain ⟨qa, ka⟩ := a
      obtain ⟨qb, kb⟩ := b
      obtain ⟨p, hp⟩ : ∃ p, s'.length = p := ⟨_, rfl⟩
      have hJ2 : p + 2 = J := by have h := hJ.out; simp at h; omega
      obtain ⟨r, hr⟩ : ∃ r, p + 1 = r := ⟨_, rfl⟩
      have hat : (s' ++ [(qa, ka)] ++ [(qb, kb)])[p]? = some (qa, ka) := by rw [List.append_assoc, List.getElem?_append_right (by omega), hp, Nat.sub_self]; rfl
      have hbt : (s' ++ [(qa, ka)] ++ [(qb, kb)])[r]? = some (qb, kb) := by rw [List.append_assoc, List.getElem?_append_right (by omega), hp, show r - p = 1 by omega]; rfl
      obtain ⟨ma, aa, na, ca, ba, da, ea, hg0, hg1, k0, k1, k2, k3, hQa⟩ := hBr.out.at hat
      obtain ⟨mb, ab, nb, cb, bb, db, eb, -, -, l0, l1, l2, l3, hQb⟩ := hBr.out.at hbt
      dsimp only at k3 l3 hQa hQb
      have ia := hSt.out.all (qa, ka) (by simp)
      have ib := hSt.out.all (qb, kb) (by simp)
      have i64 : i + 1 ≤ 64 := by have := HLT.out; have := HNN.out; omega
      have ja := hSt.out.le (b := (qa, ka)) (by simp)
      have jb := hSt.out.le (b := (qb, kb)) (by simp)
      have la := hSt.out.lim i64 (b := (qa, ka)) (by simp)
      have lb := hSt.out.lim i64 (b := (qb, kb)) (by simp)
      have da' := bm_dig hSt.out i64 (b := (qa, ka)) (by simp)
      have db' := bm_dig hSt.out i64 (b := (qb, kb)) (by simp)
      dsimp only at ia ib ja jb la lb
      have lma := Lim.of da' (by omega); have lmb := Lim.of db' (by omega)
      have PMa := fun V hq => hid (s_mean V ma aa na ca ba da ea qa ka hq ia.1 (by omega) la)
      have PMb := fun V hq => hid (s_mean V mb ab nb cb bb db eb qb kb hq ib.1 (by omega) lb)
      have PCm := fun V v u hv hu => hid (f_Cmp V v u (bm (qa, ka)) (bm (qb, kb)) hv hu lma.1 lma.2 lmb.1 lmb.2)
      have PMg := fun V hr hq => hid (s_merge V w1.heap.size g J c p (s' ++ [(qa, ka)] ++ [(qb, kb)]) (qa, ka) hr hat mb ab nb cb bb db eb qb kb hq (by dsimp only; omega) la lb)
      have HT := hid (show (if bm (qb, kb) < bm (qa, ka) then pv1 (qa + qb, ka + kb) s'.reverse else (qb, kb) :: (qa, ka) :: s'.reverse) = pv (qs.take (i + 1)) by
       have h := hT.out
       rw [List.reverse_append] at h
       exact h)
      have hcz : 0 < cmF (bm (qa, ka)) (bm (qb, kb)) ↔ bm (qb, kb) < bm (qa, ka) := by
       have h1 := (cmF_sign (bm (qa, ka)) (bm (qb, kb))).1
       have h2 : ordQ (bm (qa, ka)) (bm (qb, kb)) ≤ 0 ↔ bm (qa, ka) ≤ bm (qb, kb) := ordQ_le_iff
       rw [h1]
       constructor
       ·intro h; exact Rat.not_le.1 fun e => by have := h2.2 e; omega
       ·intro h; have := mt h2.1 (Rat.not_le.2 h); omega
      obtain ⟨z, hz⟩ : ∃ z, cmF (bm (qa, ka)) (bm (qb, kb)) = z := ⟨_, rfl⟩
      rw [hz] at PCm hcz
      have HCZ := hid hcz
      have t1 : decide ((1 : Int) < (J : Int)) = true := decide_eq_true (by omega)
      have t1' : decide (1 < J) = true := decide_eq_true (by omega)
      have wp : IntKind.i64.wrap ((J : Int) - 2) = (p : Int) := by rw [IntWalk.i64_in _ ⟨by omega, by have := hSt.out.len; simp at this; omega⟩]; omega
      have wr' : IntKind.i64.wrap ((J : Int) - 1) = (r : Int) := by rw [IntWalk.i64_in _ ⟨by omega, by have := hSt.out.len; simp at this; omega⟩]; omega
      have f3 : (0 : Int) ≤ (p : Int) := by omega
      have f4 : (p : Int) < (J : Int) := by omega
      have f5 : (0 : Int) ≤ (r : Int) := by omega
      have f6 : (r : Int) < (J : Int) := by omega
      have KK : Hid (∀ V, Below wr.heap.size wr V → V.cell? ⟨g, p * 4, none⟩ = some (.bool ma) ∧ V.cell? ⟨g, p * 4 + 1, none⟩ = some (.slice aa na ca) ∧ V.cell? ⟨g, p * 4 + 2, none⟩ = some (.slice ba da ea) ∧ V.cell? ⟨g, p * 4 + 3, none⟩ = some (.int .i64 (ka : Nat)) ∧ V.cell? ⟨g, r * 4, none⟩ = some (.bool mb) ∧ V.cell? ⟨g, r * 4 + 1, none⟩ = some (.slice ab nb cb) ∧ V.cell? ⟨g, r * 4 + 2, none⟩ = some (.slice bb db eb) ∧ V.cell? ⟨g, r * 4 + 3, none⟩ = some (.int .i64 (kb : Nat))) := fun V hV =>
       ⟨(hV.cell (p := ⟨g, p * 4, none⟩) hg1).trans k0, (hV.cell (p := ⟨g, p * 4 + 1, none⟩) hg1).trans k1, (hV.cell (p := ⟨g, p * 4 + 2, none⟩) hg1).trans k2, (hV.cell (p := ⟨g, p * 4 + 3, none⟩) hg1).trans k3, (hV.cell (p := ⟨g, r * 4, none⟩) hg1).trans l0, (hV.cell (p := ⟨g, r * 4 + 1, none⟩) hg1).trans l1, (hV.cell (p := ⟨g, r * 4 + 2, none⟩) hg1).trans l2, (hV.cell (p := ⟨g, r * 4 + 3, none⟩) hg1).trans l3⟩
      obtain ⟨aq, cq, e9, hJc, hc63⟩ := hBr.out.slice
      have hJc : J ≤ c := by
       injection e9 with e1 e2 e3
       rw [e3]; rw [← e2] at hJc; exact hJc
      have hc9 : c ≤ 9223372036854775807 := by
       injection e9 with e1 e2 e3
       rw [e3]; exact hc63
      have f7 : (r : Int) ≤ (c : Int) := by omega
      have QA := hid hQa; have QB := hid hQb
      have HP2 := hid hp; have HR2 := hid hr; have HJ2 := hid hJ2; have HG0 := hid hg0
      clear hat hbt k0 k1 k2 k3 l0 l1 l2 l3 hQa hQb ia ib i64 ja jb la lb da' db' lma lmb hcz hz hp hr hJ2 hg0 hg1 e9 hJc hc63 hJ hT
      go_wp2_with fail
      refine held_plain [0, 1, 2, 3, 4, 5, 6, 7, 9, 10, 11, 12, 13] 5 (fun V => V.cell? ⟨g, p * 4, none⟩ = some (.bool ma) ∧ V.cell? ⟨g, p * 4 + 1, none⟩ = some (.slice aa na ca) ∧ V.cell? ⟨g, p * 4 + 2, none⟩ = some (.slice ba da ea) ∧ V.cell? ⟨g, p * 4 + 3, none⟩ = some (.int .i64 (ka : Nat)) ∧ V.cell? ⟨g, r * 4, none⟩ = some (.bool mb) ∧ V.cell? ⟨g, r * 4 + 1, none⟩ = some (.slice ab nb cb) ∧ V.cell? ⟨g, r * 4 + 2, none⟩ = some (.slice bb db eb) ∧ V.cell? ⟨g, r * 4 + 3, none⟩ = some (.int .i64 (kb : Nat))) (by kernel_rfl) (by kernel_rfl) (by kernel_rfl) (by kernel_rfl) (KK.out _ (Below.refl _ _).drew) ?_
      iterate 13
       refine ⟨_, rfl, ?_⟩
       apply Exists.intro
       refine ⟨.inl ⟨by rfl, ?_⟩, ?_⟩
       ·(intro W' hW'; obtain ⟨z1, z2, z3, z4, z5, z6, z7, z8⟩ := hW'; go_simp; try (with_reducible rfl))
       (dsimp only [Act.put]; try simp only [List.setIfInBounds_toArray, List.set_cons_zero, List.set_cons_succ])
      refine held_oneW (i := 8) (by kernel_rfl) (by rfl) (by rfl) ?_
      go_wp2_with fail
      refine (PMa _ (QA.out.call (Below.refl _ _).drew)).out.mono ?_; rintro e w6 ⟨⟨v6, rfl, hv6⟩, hb6⟩
      obtain ⟨m6, a6, n6, c6', b6, d6, e6, rfl⟩ := hv6.qv
      have y6 := hid (show Below wr.heap.size wr w6 from (Below.refl _ _).drew.trans hb6)
      have M6 := hid hv6
      clear hb6 hv6
      go_wp2_with fail
      refine ⟨KK.out _ y6.out, ?_⟩
      refine held_oneW (i := 14) (by kernel_rfl) (by rfl) (by rfl) ?_
      go_wp2_with fail
      refine (PMb _ (QB.out.call y6.out)).out.mono ?_; rintro e w7 ⟨⟨v7, rfl, hv7⟩, hb7⟩
      obtain ⟨m7, a7, n7, c7, b7, d7, e7, rfl⟩ := hv7.qv
      have y7 := hid (bnext y6.out hb7)
      have M7 := hid (M6.out.call hb7); have N7 := hid hv7
      clear hb7 hv7
      go_wp2_with fail
      refine ⟨KK.out _ y7.out, ?_⟩
      refine held_oneW (i := 15) (by kernel_rfl) (by rfl) (by rfl) ?_
      go_wp2_with fail
      refine (PCm _ _ _ M7.out N7.out).out.mono ?_; rintro e w8 ⟨rfl, hb8⟩
      have y8 := hid (bnext y7.out hb8)
      have BR8 := hid (hBr.out.call y8.out); have BX8 := hid (hBx.out.trans (y8.out.mono hBx.out.size))
      clear hb8
      by_cases hlt2 : bm (qb, kb) < bm (qa, ka)
      ·have t2 : decide (0 < z) = true := decide_eq_true (HCZ.out.2 hlt2)
       have HT2 := hid (show pv1 (qa + qb, ka + kb) s'.reverse = pv (qs.take (i + 1)) by have h := HT.out; rw [if_pos hlt2] at h; exact h)
       have SM := hid (hSt.out.merge)
       clear hlt2
       go_wp2_with fail
       refine ⟨KK.out _ y8.out, ?_⟩
       refine held_more (is := [16, 17]) (g := 0) (by kernel_rfl) rfl (KK.out _ y8.out) (by kernel_rfl) ?_
       iterate 2
        refine ⟨_, rfl, ?_⟩
        apply Exists.intro
        refine ⟨.inl ⟨by rfl, ?_⟩, ?_⟩
        ·(intro W' hW'; obtain ⟨z1, z2, z3, z4, z5, z6, z7, z8⟩ := hW'; go_simp; try (with_reducible rfl))
        (dsimp only [Act.put]; try simp only [List.setIfInBounds_toArray, List.set_cons_zero, List.set_cons_succ])
       refine wpAnyH_done (by kernel_rfl) ?_ _
       simp only [Only]
       go_wp2_with fail
       refine held_lasts2 9 1 [] [(0, 3), (2, 3), (1, 2), (7, 8), (4, 7), (6, 7), (5, 6)] [0, 1, 2, 3, 4, 5, 6, 7, 8] 0 (fun V => V.cell? ⟨g, r * 4, none⟩ = some (.bool mb) ∧ V.cell? ⟨g, r * 4 + 1, none⟩ = some (.slice ab nb cb) ∧ V.cell? ⟨g, r * 4 + 2, none⟩ = some (.slice bb db eb) ∧ V.cell? ⟨g, r * 4 + 3, none⟩ = some (.int .i64 (kb : Nat))) (by kernel_rfl) (by kernel_rfl) (by kernel_rfl) (by kernel_rfl) (by kernel_rfl) (by kernel_rfl) (by kernel_rfl) (by kernel_rfl) (by kernel_rfl) (by kernel_rfl) (by kernel_rfl) (by kernel_rfl) (by obtain ⟨-, -, -, -, h⟩ := KK.out _ y8.out.drew; exact h) ?_
       iterate 9
        refine ⟨_, rfl, ?_⟩
        apply Exists.intro
        refine ⟨.inl ⟨by rfl, ?_⟩, ?_⟩
        ·(intro W' hW'; obtain ⟨z5, z6, z7, z8⟩ := hW'; go_simp; try (with_reducible rfl))
        (dsimp only [Act.put]; try simp only [List.setIfInBounds_toArray, List.set_cons_zero, List.set_cons_succ])
       refine wpAnyH_done (by kernel_rfl) ?_ _
       simp only [Only, ThenL, List.drop_succ_cons, List.drop_zero]
       go_wp2_with fail
       refine (PMg _ (BR8.out.call (Below.refl _ _).drew) (QB.out.call y8.out.drew)).out.mono ?_; rintro e w9 ⟨rfl, hb9, hg9⟩
       have BX9 := hid ((BX8.out.drew).grown hg9 (by show _ ≤ _; exact BX8.out.size) (fun k e => by injection e with e; have := HG0.out; omega))
       have hset : (s' ++ [(qa, ka)] ++ [(qb, kb)]).set p (qa + qb, ka + kb) = s' ++ [(qa + qb, ka + kb)] ++ [(qb, kb)] := by
        rw [List.append_assoc, List.set_append_right _ _ (by have := HP2.out; omega), HP2.out, Nat.sub_self, List.append_assoc]; rfl
       have h9 : BRow w1.heap.size w9 (.slice (some ⟨g, 0, none⟩) J c) (s' ++ [(qa + qb, ka + kb)] ++ [(qb, kb)]) := by rw [← hset]; exact hb9
       have h10 := h9.cut (m := r) (by simp; have := HP2.out; have := HR2.out; omega)
       rw [List.take_append_of_le_length (by simp; have := HP2.out; have := HR2.out; omega), List.take_of_length_le (by simp; have := HP2.out; have := HR2.out; omega)] at h10
       have BR9 := hid h10
       clear hb9 hg9 hset h9 h10
       go_wp2_with fail
       try simp only [Only]
       try go_wp2_with fail
       go_roundw
       case rel => exact ⟨s', (qa + qb, ka + kb), r, g, c, by have := HP2.out; have := HR2.out; show _ = _; omega, rfl, rfl, HT2, SM, BR9, BX9⟩
       case measure => simp [intOf] <;> (have := HR2.out; have := HJ2.out; omega)
      ·have t2 : decide (0 < z) = false := decide_eq_false fun e => hlt2 (HCZ.out.1 e)
       have PN := hid (show (s' ++ [(qa, ka)] ++ [(qb, kb)]).reverse = pv (qs.take (i + 1)) by
        have h := HT.out
        rw [if_neg hlt2] at h
        rw [← h]; simp)
       clear hlt2
       go_wp2_with fail
       refine ⟨KK.out _ y8.out, ?_⟩
       refine held_more (is := [16, 17]) (g := 0) (by kernel_rfl) rfl (KK.out _ y8.out) (by kernel_rfl) ?_
       iterate 2
        refine ⟨_, rfl, ?_⟩
        apply Exists.intro
        refine ⟨.inl ⟨by rfl, ?_⟩, ?_⟩
        ·(intro W' hW'; obtain ⟨z1, z2, z3, z4, z5, z6, z7, z8⟩ := hW'; go_simp; try (with_reducible rfl))
        (dsimp only [Act.put]; try simp only [List.setIfInBounds_toArray, List.set_cons_zero, List.set_cons_succ])
       refine wpAnyH_done (by kernel_rfl) ?_ _
       simp only [Only]
       go_wp2_with fail
       go_roundw
       case rel => exact ⟨i + 1, s' ++ [(qa, ka)] ++ [(qb, kb)], by go_num, by have := HLT.out; omega, PN, hSt, BR8, BX8⟩
       case measure => simp [intOf] <;> (have := HLT.out; omega)
   ·obtain rfl : i = N := by omega
    have q9 : decide ((i : Int) < (i : Int)) = false := by simp
    have HM := hid (show mnL qs = outL st from mn_is (by rw [hP.out, List.take_of_length_le (by rw [HN.out]; exact Nat.le_refl _)]))
    obtain ⟨x0, hx0⟩ : ∃ b, st[0]? = some b := ⟨_, List.getElem?_eq_getElem (by
     rcases Nat.eq_zero_or_pos st.length with e | e
     ·have h := hS.out.sum
      rw [List.length_eq_zero_iff.1 e] at h
      have := HNN.out.1
      simp at h; omega
     ·exact e)⟩
    obtain ⟨K, hK⟩ : ∃ k, st.length = k := ⟨_, rfl⟩
    have hK0 : 0 < K := by rw [← hK]; exact (List.getElem?_eq_some_iff.1 hx0).1
    have HK := hid hK; have HK64 := hid (show K ≤ 64 by have := hS.out.len; have := HNN.out; omega)
    obtain ⟨g, c6, rfl, hgB, hg, hKc, hc63, -⟩ := hO.out.nz hK hK0
    have HOL := hid (outL_len hS.out)
    have HLim := hid (fun (q : Rat) (hq : q ∈ outL st) => show Lim q by
     unfold outL at hq
     obtain ⟨b, hb, hq⟩ := List.mem_flatMap.1 hq
     rw [List.eq_of_mem_replicate hq]
     exact Lim.of (bm_dig hS.out HNN.out.2 hb) (by omega))
    have HWR := fun V v h hV => hid (s_write V wr.heap.size v (outL st) h (by rw [HOL.out]; exact HNN.out.2) HLim.out hV)
    have HBm := hid (bnext y1.out hB.out)
    obtain ⟨wp, hwp⟩ : ∃ q, q = wr := ⟨_, rfl⟩
    subst hwp
    clear hlt hi' hx0 hK hK0 hgB hP
    go_wp2_with fail
    go_loopw [10, 12, 71] (fun s10 s12 s71 wx => ∃ p : Nat, s71 = .int .i64 (p : Nat) ∧ p ≤ K ∧ Hid (VRow wp.heap.size wx s10 (outL (st.take p))) ∧ Hid (Below wp.heap.size wp wx)) (fun s10 s12 s71 wx => K - (intOf s71).toNat)
    case atStart => exact ⟨0, rfl, Nat.zero_le _, VRow.nil _ _, Below.refl _ _⟩
    case round =>
     obtain ⟨p, e71, hp, hV, hX⟩ := hrel
     obtain ⟨s10, hs10⟩ : ∃ x, x = u10 := ⟨_, rfl⟩
     subst hs10
     subst e71
     by_cases hltp : p < K
     ·obtain ⟨b, hb⟩ : ∃ b, st[p]? = some b := ⟨_, List.getElem?_eq_getElem (by rw [HK.out]; exact hltp)⟩
      obtain ⟨mb, ab, nb, cb, bb, db, eb, -, -, l0, l1, l2, l3, hQb⟩ := (hO.out.call hX.out).at hb
      have hbm := List.mem_of_getElem? hb
      have ib := hS.out.all b hbm
      have jb := hS.out.le hbm
      have lb := hS.out.lim HNN.out.2 hbm
      have HNX := hid (outL_take hb)
      obtain ⟨qb, kb⟩ := b
      dsimp only at l3 hQb ib jb lb HNX
      have hkb64 : kb ≤ 64 := by have := HNN.out; omega
      have PMb := fun V hq => hid (s_mean V mb ab nb cb bb db eb qb kb hq ib.1 hkb64 lb)
      have A1 := hid ((Below.refl wr.heap.size wr).alloc (Nat.le_refl _) (.cells #[.bool mb, .slice ab nb cb, .slice bb db eb, .int .i64 (kb : Nat)] 73))
      have X1 := hid (Blk.new wr #[.bool mb, .slice ab nb cb, .slice bb db eb, .int .i64 (kb : Nat)] 73)
      have QB := hid (hQb.call A1.out)
      have V1 := hid (hV.out.call A1.out)
      have B1 := hid (hX.out.trans (A1.out.mono hX.out.size))
      have KB := hid (show 1 ≤ kb ∧ kb ≤ 64 from ⟨ib.1, hkb64⟩)
      have HLTP := hid hltp
      have f1 : (0 : Int) ≤ (p : Int) := by omega
      have f2 : (p : Int) < (K : Int) := by omega
      have wi : IntKind.i64.wrap ((p : Int) + 1) = ((p + 1 : Nat) : Int) := by have := HK64.out; rw [IntWalk.i64_in _ ⟨by omega, by omega⟩]; omega
      obtain ⟨W, hW⟩ : ∃ W, wr.alloc (.cells #[.bool mb, .slice ab nb cb, .slice bb db eb, .int .i64 (kb : Nat)] 73) = W := ⟨_, rfl⟩
      rw [hW] at A1 X1 QB V1 B1
      have HVL := hid (show (outL (st.take p)).length ≤ 64 by
       have h1 : (outL (st.take (p + 1))).length ≤ (outL st).length := by
        have h2 : outL st = outL (st.take (p + 1)) ++ outL (st.drop (p + 1)) := by unfold outL; rw [← List.flatMap_append, List.take_append_drop]
        rw [h2, List.length_append]; omega
       rw [HNX.out, List.length_append, HOL.out] at h1
       have := HNN.out
       omega)
      have KK : Hid (∀ V, Below W.heap.size W V → V.cell? ⟨wr.heap.size, 0, none⟩ = some (.bool mb) ∧ V.cell? ⟨wr.heap.size, 1, none⟩ = some (.slice ab nb cb) ∧ V.cell? ⟨wr.heap.size, 2, none⟩ = some (.slice bb db eb) ∧ V.cell? ⟨wr.heap.size, 3, none⟩ = some (.int .i64 (kb : Nat))) := fun V hV => ⟨(X1.out.call hV).cell 0, (X1.out.call hV).cell 1, (X1.out.call hV).cell 2, (X1.out.call hV).cell 3⟩
      have GW := hid (show wr.heap.size < W.heap.size from X1.out.lt)
      have OWN := hid (show ∀ go, s10.ownBlock = some go → go < wr.heap.size from fun go hgo => by
       obtain ⟨cs, hk, -⟩ := hV.out.ex
       exact (hk.own.lt go hgo).2)
      clear hb hbm ib jb lb hkb64 hQb hltp hp
      go_wp2_with fail
      try rw [hW]
      clear hW l0 l1 l2 l3
      refine held_plain [0, 1, 4, 5] 5 (fun V => V.cell? ⟨wr.heap.size, 0, none⟩ = some (.bool mb) ∧ V.cell? ⟨wr.heap.size, 1, none⟩ = some (.slice ab nb cb) ∧ V.cell? ⟨wr.heap.size, 2, none⟩ = some (.slice bb db eb) ∧ V.cell? ⟨wr.heap.size, 3, none⟩ = some (.int .i64 (kb : Nat))) (by kernel_rfl) (by kernel_rfl) (by kernel_rfl) (by kernel_rfl) (KK.out _ (Below.refl _ _).drew) ?_
      iterate 4
       refine ⟨_, rfl, ?_⟩
       apply Exists.intro
       refine ⟨.inl ⟨by rfl, ?_⟩, ?_⟩
       ·(intro W' hW'; obtain ⟨z1, z2, z3, z4⟩ := hW'; go_simp; try (with_reducible rfl))
       (dsimp only [Act.put]; try simp only [List.setIfInBounds_toArray, List.set_cons_zero, List.set_cons_succ])
      refine held_one (i := 2) (by kernel_rfl) (by rfl) (by rfl) ?_
      go_wp2_with fail
      refine (PMb _ (QB.out.call (Below.refl _ _).drew)).out.mono ?_; rintro e w6 ⟨⟨v6, rfl, hv6⟩, hb6⟩
      obtain ⟨m6, a6, n6, c6', b6, d6, e6, rfl⟩ := hv6.qv
      have y6 := hid (show Below W.heap.size W w6 from (Below.refl _ _).drew.trans hb6)
      have M6 := hid hv6
      clear hb6 hv6
      go_wp2_with fail
      refine ⟨KK.out _ y6.out, ?_⟩
      refine held_one (i := 3) (by kernel_rfl) (by rfl) (by rfl) ?_
      go_wp2_with fail
      have A7 := hid ((Below.refl w6.heap.size w6).alloc (Nat.le_refl _) (.cells #[.bool m6, .slice a6 n6 c6', .slice b6 d6 e6] 57))
      have Z7 := hid (Blk.new w6 #[.bool m6, .slice a6 n6 c6', .slice b6 d6 e6] 57)
      have M7 := hid (M6.out.call A7.out)
      have y7 := hid (bnext y6.out A7.out)
      refine ⟨KK.out _ y7.out, ?_⟩
      refine held_one (i := 6) (by kernel_rfl) (by rfl) (by rfl) ?_
      go_wp2_with fail
      refine (s_RepF _ _ kb _ _ _ KB.out.1 (by have := KB.out; omega) Z7.out rfl rfl rfl).mono ?_; rintro e w8 ⟨rfl, hb8, hy8⟩
      have y8 := hid (bnext y7.out hy8)
      obtain ⟨cr, hcr, hkr, hqr⟩ := rp_row (B := w6.heap.size) hb8 (by simp) (by have := KB.out; omega) (M7.out.call hy8)
      have HKR := hid hkr; have HQR := hid hqr
      have LCR := hid (show cr.length = kb by rw [hcr, List.length_replicate])
      obtain ⟨cs, hk, hQL⟩ := (V1.out.call y8.out).ex
      have HKV := hid hk; have HQV := hid hQL
      have LCS := hid (show cs.length = (outL (st.take p)).length from hQL.len)
      have B8 := hid (B1.out.trans (y8.out.mono B1.out.size))
      have HC8 := hid hqr.cells
      have SRC := hid (show ∀ j u, cr.flatten[j]? = some u → w8.cell? ((⟨w6.heap.size + 1, 0, none⟩ : Addr).add j) = some u from fun j u hu => by
       have h := hkr.own.cells (g := _) rfl j u hu
       simpa using h)
      clear hb8 hy8 hcr hkr hqr hk hQL
      go_wp2_with fail
      refine ⟨KK.out _ y8.out, ?_⟩
      refine held_one (i := 7) (by kernel_rfl) (by rfl) (by rfl) ?_
      refine wpList_append_krow _ .u64 rfl (.tmp 75) (.tmp 81) 53 rfl wp.heap.size 57 i0 (.agg #[.bool false, .slice none 0 0, .slice none 0 0]) 3 56 Tryz.underlying53 hi hz0 hz1 hz2 rfl (by decide) noz_fr _ cs rfl HKV.out ⟨w6.heap.size + 1, 0, none⟩ kb kb cr rfl LCR.out HKR.out.all SRC.out HC8.out.1 HC8.out.2 (by rw [LCS.out]; have := HVL.out; have := KB.out; unfold maxLen; omega) (by rw [LCS.out]; have := HVL.out; have := KB.out; omega) B8.out.size ?_
      intro v' w9 hown hgrow hkeep hat
      have V9 := hid (show VRow wp.heap.size w9 v' (outL (st.take (p + 1))) by rw [HNX.out]; exact ⟨cs ++ cr, hown, (HQV.out.append HQR.out).keep hkeep⟩)
      have B9 := hid (krow_below HKV.out B8.out hgrow)
      have hblk := hgrow.block wr.heap.size (by have := GW.out; have := y8.out.size; omega) (fun e => by have := OWN.out _ e.symm; omega)
      have KS : Hid (w9.cell? ⟨wr.heap.size, 0, none⟩ = some (.bool mb) ∧ w9.cell? ⟨wr.heap.size, 1, none⟩ = some (.slice ab nb cb) ∧ w9.cell? ⟨wr.heap.size, 2, none⟩ = some (.slice bb db eb) ∧ w9.cell? ⟨wr.heap.size, 3, none⟩ = some (.int .i64 (kb : Nat))) := by
       obtain ⟨x1, x2, x3, x4⟩ := KK.out _ y8.out
       exact ⟨(World.cell?_of_block hblk).trans x1, (World.cell?_of_block hblk).trans x2, (World.cell?_of_block hblk).trans x3, (World.cell?_of_block hblk).trans x4⟩
      clear hown hgrow hkeep hat hblk
      go_wp2_with fail
      refine ⟨KS.out, ?_⟩
      refine held_more (is := [8]) (g := 0) (by kernel_rfl) rfl KS.out (by kernel_rfl) ?_
      iterate 1
       refine ⟨_, rfl, ?_⟩
       apply Exists.intro
       refine ⟨.inl ⟨by rfl, ?_⟩, ?_⟩
       ·(intro W' hW'; obtain ⟨z1, z2, z3, z4⟩ := hW'; go_simp; try (with_reducible rfl))
       (dsimp only [Act.put]; try simp only [List.setIfInBounds_toArray, List.set_cons_zero, List.set_cons_succ])
      refine wpAnyH_done (by kernel_rfl) ?_ _
      simp only [Only]
      go_wp2_with fail
      go_roundw
      case rel => exact ⟨p + 1, by go_num, by have := HLTP.out; omega, V9, B9⟩
      case measure => simp [intOf] <;> (have := HLTP.out; omega)
     ·obtain rfl : p = K := by omega
      have q8 : decide ((p : Int) < (p : Int)) = false := by simp
      have RE := hid (show VRow wp.heap.size wr s10 (outL st) by have h := hV.out; rw [List.take_of_length_le (by rw [HK.out]; exact Nat.le_refl _)] at h; exact h)
      have BM := hid (bnext HBm.out hX.out)
      clear hltp hp hV
      go_wp2_with fail
      refine (HWR _ _ RE.out (HL.out.call BM.out)).out.mono ?_; rintro e w8 ⟨⟨u, rfl, hu⟩, hb8⟩
      have y8 := hid (bnext BM.out hb8)
      have U8 := hid hu
      clear hb8 hu
      go_wp2_with fail
      go_ret2
      exact ⟨⟨_, by rw [HM.out]; rfl, by rw [HM.out]; exact U8.out⟩, y8.out⟩
theorem k_SameI (w : World) (v u : Value) (L M : List Int) (hv : Row w v (zs L)) (hu : Row w u (zs M)) :
 Calls Tryz.prog 30 #[v, u] w fun e w' => e = .returned (.bool (decide (L = M))) ∧ Below w.heap.size w w' := by
 obtain ⟨a, c, rfl, h1, h2, h3⟩ := hv.openZ
 obtain ⟨a', c', rfl, h1', h2', h3'⟩ := hu.openZ
 obtain ⟨n, hn⟩ : ∃ n, L.length = n := ⟨_, rfl⟩
 obtain ⟨m, hm⟩ : ∃ n, M.length = n := ⟨_, rfl⟩
 rw [hn] at h1 ⊢
 rw [hm] at h1' ⊢
 have H3 := hid h3; have H3' := hid h3'; have HN := hid hn; have HM := hid hm
 clear hv hu h3 h3'
 by_cases hnm : n = m
 ·subst hnm
  have q0 : ((n : Int) != (n : Int)) = false := by simp
  clear hn hm
  go_enter Tryz.func30, Tryz.ntmps30
  go_wp2_with fail
  go_loopw [5] (fun ii wr => ∃ i : Nat, ii = .int .i64 (i : Nat) ∧ i ≤ n ∧ Hid (∀ j, j < i → L[j]? = M[j]?) ∧ Hid (Below w.heap.size w wr)) (fun ii wr => n - (intOf ii).toNat)
  case atStart => exact ⟨0, rfl, Nat.zero_le _, fun j hj => absurd hj (by omega), Below.refl _ _⟩
  case round =>
   obtain ⟨i, rfl, hi, hI, hB⟩ := hrel
   by_cases hlt : i < n
   ·obtain ⟨x, hx⟩ : ∃ x, L[i]? = some x := ⟨_, List.getElem?_eq_getElem (by rw [HN.out]; exact hlt)⟩
    obtain ⟨y, hy⟩ : ∃ x, M[i]? = some x := ⟨_, List.getElem?_eq_getElem (by rw [HM.out]; exact hlt)⟩
    obtain ⟨g, o, rfl, hg, k1⟩ := H3.out i x hx
    obtain ⟨g', o', rfl, hg', k1'⟩ := H3'.out i y hy
    have HX := hid hx; have HY := hid hy
    have m1 := (hB.out.cell (p := ⟨g, o + i, none⟩) hg).trans k1
    have m3 := (hB.out.cell (p := ⟨g', o' + i, none⟩) hg').trans k1'
    have b1 : (0 : Int) ≤ (i : Int) := by omega
    have b2 : (i : Int) < (n : Int) := by omega
    have wi : IntKind.i64.wrap ((i : Int) + 1) = (i : Int) + 1 := by rw [IntWalk.i64_in _ ⟨by omega, by omega⟩]
    clear k1 k1' hx hy hg hg'
    by_cases he1 : x = y
    ·subst he1
     have n1 : (x != x) = false := by simp
     go_wp2_with fail
     refine held_plain [0, 1, 2, 3, 4, 5, 6, 7, 8] 0 (fun w' => w'.cell? ⟨g, o + i, none⟩ = some (.int .i64 x) ∧ w'.cell? ⟨g', o' + i, none⟩ = some (.int .i64 x)) (by kernel_rfl) (by kernel_rfl) (by kernel_rfl) (by kernel_rfl) ⟨m1, m3⟩ ?_
     iterate 9
      refine ⟨_, rfl, ?_⟩
      apply Exists.intro
      refine ⟨.inl ⟨by rfl, ?_⟩, ?_⟩
      ·(intro W' hW'; obtain ⟨q1, q2⟩ := hW'; go_simp; try (with_reducible rfl))
      (dsimp only [Act.put]; try simp only [List.setIfInBounds_toArray, List.set_cons_zero, List.set_cons_succ])
     refine wpAnyH_done (by kernel_rfl) ?_ _
     simp only [Only]
     go_wp2_with fail
     go_roundw
     case rel => exact ⟨i + 1, rfl, by omega, fun j hj => by
      rcases Nat.lt_or_ge j i with h | h
      ·exact hI.out j h
      ·obtain rfl : j = i := by omega
       rw [HX.out, HY.out], hB.out.drew⟩
     case measure => simp [intOf] <;> omega
    ·have n1 : (x != y) = true := by simpa using he1
     have hne : decide (L = M) = false := by
      rw [decide_eq_false_iff_not]; rintro rfl
      have := HX.out.symm.trans HY.out
      simp only [Option.some.injEq] at this
      exact he1 this
     have HNE := hid hne
     clear hne he1
     go_wp2_with fail
     refine held_plain [0, 1, 2, 3, 4, 5, 6, 7, 8] 0 (fun w' => w'.cell? ⟨g, o + i, none⟩ = some (.int .i64 x) ∧ w'.cell? ⟨g', o' + i, none⟩ = some (.int .i64 y)) (by kernel_rfl) (by kernel_rfl) (by kernel_rfl) (by kernel_rfl) ⟨m1, m3⟩ ?_
     iterate 9
      refine ⟨_, rfl, ?_⟩
      apply Exists.intro
      refine ⟨.inl ⟨by rfl, ?_⟩, ?_⟩
      ·(intro W' hW'; obtain ⟨q1, q2⟩ := hW'; go_simp; try (with_reducible rfl))
      (dsimp only [Act.put]; try simp only [List.setIfInBounds_toArray, List.set_cons_zero, List.set_cons_succ])
     refine wpAnyH_done (by kernel_rfl) ?_ _
     simp only [Only]
     go_wp2_with fail
     go_ret
     exact ⟨by rw [HNE.out]; rfl, hB.out.drew⟩
   ·obtain rfl : i = n := by omega
    have hE : L = M := by
     apply List.ext_getElem?
     intro j
     by_cases hj : j < i
     ·exact hI.out j hj
     ·rw [List.getElem?_eq_none (by rw [HN.out]; omega), List.getElem?_eq_none (by rw [HM.out]; omega)]
    have HE := hid hE
    have q1 : decide ((i : Int) < (i : Int)) = false := by simp
    clear hE
    go_wp2_with fail
    go_ret
    exact ⟨by rw [decide_eq_true HE.out]; rfl, hB.out⟩
 ·have hE : decide (L = M) = false := by rw [decide_eq_false_iff_not]; rintro rfl; exact hnm (hn.symm.trans hm)
  have HE := hid hE
  have q0 : ((n : Int) != (m : Int)) = true := by simp; omega
  clear hn hm hE
  go_enter Tryz.func30, Tryz.ntmps30
  go_wp2_with fail
  go_ret
  exact ⟨by rw [HE.out]; rfl, Below.refl _ _⟩
theorem rowN_lit (w : World) (L : List ByteArray) (cs : Array Value) (n b : Nat) (hc : cs = (strs L).toArray) (hb : w.heap.size = b) (hn : L.length = n) (hL : n ≤ 1000) : Row (w.alloc (.cells cs 23)) (.slice (some ⟨b, 0, none⟩) n n) (strs L) := by
 subst hc hb
 exact Row.of_blk (Blk.new w _ _) (by rw [strs_length]; exact hn) (by unfold maxLen; omega) (fun i x h => by rw [List.getElem?_toArray]; exact h) (Nat.le_refl _) (by unfold maxLen; omega)
theorem rowI_lit (w : World) (L : List Int) (cs : Array Value) (n b : Nat) (hc : cs = (zs L).toArray) (hb : w.heap.size = b) (hn : L.length = n) (hL : n ≤ 1000) : Row (w.alloc (.cells cs 3)) (.slice (some ⟨b, 0, none⟩) n n) (zs L) := by
 subst hc hb
 exact Row.of_blk (Blk.new w _ _) (by rw [zs_length]; exact hn) (by unfold maxLen; omega) (fun i x h => by rw [List.getElem?_toArray]; exact h) (Nat.le_refl _) (by unfold maxLen; omega)
theorem w_lives29 (w : World) (hL : Lay w) :
 Calls Tryz.prog 9 #[] w fun e w' => e = .returned (.bool true) ∧ Below w.heap.size w w' := by
 have HL := hid hL
 have PX := fun V v hv hV => hid (s_Simplex V v [⟨#[51]⟩, ⟨#[45, 49]⟩, ⟨#[49]⟩] ⟨#[51]⟩ hv (by intro s hs; simp at hs; rcases hs with rfl | rfl | rfl <;> decide) (by decide) hV (by decide))
 rw [ls_sx, ls_sxL] at PX
 have A1 := hid ((Below.refl w.heap.size w).alloc (Nat.le_refl _) (.cells #[.string ⟨#[51]⟩, .string ⟨#[45, 49]⟩, .string ⟨#[49]⟩] 23))
 have R1 := hid (rowN_lit w [⟨#[51]⟩, ⟨#[45, 49]⟩, ⟨#[49]⟩] _ 3 w.heap.size rfl rfl rfl (by omega))
 have PM := fun V v hv hV => hid (s_Monotone V v [⟨#[49]⟩, ⟨#[51]⟩, ⟨#[50]⟩, ⟨#[50]⟩, ⟨#[53]⟩] hv (by intro s hs; simp at hs; rcases hs with rfl | rfl | rfl | rfl <;> decide) hV)
 rw [ls_mn, ls_mnL] at PM
 have PR := fun V v hv hV => hid (s_Round V v [⟨#[52, 47, 51]⟩, ⟨#[52, 47, 51]⟩, ⟨#[52, 47, 51]⟩] hv (by intro s hs; simp at hs; rcases hs with rfl <;> decide) (by decide) hV)
 rw [ls_rd, ls_rdL] at PR
 have PI := fun V u v hu hv => hid (k_SameI V u v [2, 1, 1] [2, 1, 1] hu hv)
 have PS1 := fun V u v hu hv => hid (k_SameS V u v [⟨#[53, 47, 50]⟩, ⟨#[48]⟩, ⟨#[49, 47, 50]⟩] [⟨#[53, 47, 50]⟩, ⟨#[48]⟩, ⟨#[49, 47, 50]⟩] hu hv)
 have PS2 := fun V u v hu hv => hid (k_SameS V u v [⟨#[49]⟩, ⟨#[55, 47, 51]⟩, ⟨#[55, 47, 51]⟩, ⟨#[55, 47, 51]⟩, ⟨#[53]⟩] [⟨#[49]⟩, ⟨#[55, 47, 51]⟩, ⟨#[55, 47, 51]⟩, ⟨#[55, 47, 51]⟩, ⟨#[53]⟩] hu hv)
 rw [decide_eq_true rfl] at PI PS1 PS2
 clear hL
 go_enter Tryz.func9, Tryz.ntmps9
 go_wp2_with fail
 refine (PX _ _ R1.out (HL.out.call A1.out)).out.mono ?_; rintro e w1 ⟨⟨u1, rfl, hu1⟩, hb1⟩
 have y1 := hid (bnext A1.out hb1)
 have U1 := hid hu1
 obtain ⟨a1, k1, rfl, -, -, -⟩ := hu1.openS
 clear hb1 hu1
 have A2 := hid ((Below.refl w1.heap.size w1).alloc (Nat.le_refl _) (.cells #[.string ⟨#[49]⟩, .string ⟨#[51]⟩, .string ⟨#[50]⟩, .string ⟨#[50]⟩, .string ⟨#[53]⟩] 23))
 have R2 := hid (rowN_lit w1 [⟨#[49]⟩, ⟨#[51]⟩, ⟨#[50]⟩, ⟨#[50]⟩, ⟨#[53]⟩] _ 5 w1.heap.size rfl rfl rfl (by omega))
 go_wp2_with fail
 refine (PM _ _ R2.out (HL.out.call (bnext y1.out A2.out))).out.mono ?_; rintro e w2 ⟨⟨u2, rfl, hu2⟩, hb2⟩
 have b2 := hid (bnext A2.out hb2)
 have y2 := hid (bnext y1.out b2.out)
 have U1b := hid (U1.out.call b2.out)
 have U2 := hid hu2
 obtain ⟨a2, k2, rfl, -, -, -⟩ := hu2.openS
 clear hb2 hu2
 have A3 := hid ((Below.refl w2.heap.size w2).alloc (Nat.le_refl _) (.cells #[.string ⟨#[52, 47, 51]⟩, .string ⟨#[52, 47, 51]⟩, .string ⟨#[52, 47, 51]⟩] 23))
 have R3 := hid (rowN_lit w2 [⟨#[52, 47, 51]⟩, ⟨#[52, 47, 51]⟩, ⟨#[52, 47, 51]⟩] _ 3 w2.heap.size rfl rfl rfl (by omega))
 go_wp2_with fail
 refine (PR _ _ R3.out (HL.out.call (bnext y2.out A3.out))).out.mono ?_; rintro e w3 ⟨⟨u3, rfl, hu3⟩, hb3⟩
 have b3 := hid (bnext A3.out hb3)
 have y3 := hid (bnext y2.out b3.out)
 have U1c := hid (U1b.out.call b3.out)
 have U2c := hid (U2.out.call b3.out)
 have U3 := hid hu3
 obtain ⟨a3, k3, rfl, -, -, -⟩ := hu3.openZ
 clear hb3 hu3
 have A4 := hid ((Below.refl w3.heap.size w3).alloc (Nat.le_refl _) (.cells #[.string ⟨#[53, 47, 50]⟩, .string ⟨#[48]⟩, .string ⟨#[49, 47, 50]⟩] 23))
 have R4 := hid (rowN_lit w3 [⟨#[53, 47, 50]⟩, ⟨#[48]⟩, ⟨#[49, 47, 50]⟩] _ 3 w3.heap.size rfl rfl rfl (by omega))
 go_wp2_with fail
 refine (PS1 _ _ _ (U1c.out.call A4.out) R4.out).out.mono ?_; rintro e w4 ⟨rfl, hb4⟩
 have b4 := hid (bnext A4.out hb4)
 have y4 := hid (bnext y3.out b4.out)
 have U2d := hid (U2c.out.call b4.out)
 have U3d := hid (U3.out.call b4.out)
 clear hb4
 have A5 := hid ((Below.refl w4.heap.size w4).alloc (Nat.le_refl _) (.cells #[.string ⟨#[49]⟩, .string ⟨#[55, 47, 51]⟩, .string ⟨#[55, 47, 51]⟩, .string ⟨#[55, 47, 51]⟩, .string ⟨#[53]⟩] 23))
 have R5 := hid (rowN_lit w4 [⟨#[49]⟩, ⟨#[55, 47, 51]⟩, ⟨#[55, 47, 51]⟩, ⟨#[55, 47, 51]⟩, ⟨#[53]⟩] _ 5 w4.heap.size rfl rfl rfl (by omega))
 go_wp2_with fail
 refine (PS2 _ _ _ (U2d.out.call A5.out) R5.out).out.mono ?_; rintro e w5 ⟨rfl, hb5⟩
 have b5 := hid (bnext A5.out hb5)
 have y5 := hid (bnext y4.out b5.out)
 have U3e := hid (U3d.out.call b5.out)
 clear hb5
 have A6 := hid ((Below.refl w5.heap.size w5).alloc (Nat.le_refl _) (.cells #[.int .i64 2, .int .i64 1, .int .i64 1] 3))
 have R6 := hid (rowI_lit w5 [2, 1, 1] _ 3 w5.heap.size rfl rfl rfl (by omega))
 go_wp2_with fail
 refine (PI _ _ _ (U3e.out.call A6.out) R6.out).out.mono ?_; rintro e w6 ⟨rfl, hb6⟩
 go_wp2_with fail
 go_ret
 exact ⟨rfl, bnext y5.out (bnext A6.out hb6)⟩
theorem strs_set (l : List ByteArray) (i : Nat) (s : ByteArray) : (strs l).set i (.string s) = strs (l.set i s) := by
 unfold strs; rw [List.map_set]
theorem valid_one {t : ByteArray} (h : validB [t] = true) : qE t = 0 ∧ t.size ≤ 20 := by
 have := VL.of h
 exact ⟨this.q t (by simp), this.sz t (by simp)⟩
end Go.Proofs.YtlimaehdmcnjaaaGreatDoor
namespace Go.Proofs.YtlimaehdmcnjaaaGreatDoor
open Go.RowKit
open Go.Lib (decDigits nDigits)
theorem isQ_absI {W : World} {m : Bool} {x y : Value} {q : Rat} (h : IsQ .i64 W (.agg #[.bool m, x, y]) q) : IsQ .i64 W (.agg #[.bool false, x, y]) (absQ q) := by
 obtain ⟨N, D, e, h1, h2⟩ := h.ex
 injection e with e
 have e2 := congrArg Array.toList e
 injection e2 with e3 e4
 injection e4 with e5 e6
 injection e6 with e7 e8
 subst e5 e7
 obtain ⟨a1, a2, a3⟩ := absQ_parts q
 refine ⟨x, y, ?_, by rw [a2]; exact h1, by rw [a3]; exact h2⟩
 rw [decide_eq_false a1]
theorem r2_Abs (w : World) (s : ByteArray) (hs : s.size ≤ 1000000) :
 Calls Tryz.prog 25 #[.string s] w fun e w' => (∃ E, e = .returned (.tuple #[.string (abB s), .int .i64 E])) ∧ Below w.heap.size w w' := by
 have R1 := fun V => hid (r2_Read V s hs)
 clear hs
 by_cases h0 : qE s = 0
 ·have eB : abB s = outB (absQ (vQ s)) := by rw [abB, if_pos h0]
  rw [eB]
  have ds := dig_of_fits (vQ_fits h0)
  obtain ⟨p1, p2, p3⟩ := absQ_parts (vQ s)
  have dl := ds.limbs (L := 1000000) (by omega) (by omega)
  have HW := fun V v h => hid (r2_Write V v (absQ (vQ s)) h (by rw [p2]; exact dl.1) (by rw [p3]; exact dl.2))
  obtain ⟨oB, hB⟩ : ∃ x, outB (absQ (vQ s)) = x := ⟨_, rfl⟩
  obtain ⟨oE, hE⟩ : ∃ x, outE (absQ (vQ s)) = x := ⟨_, rfl⟩
  rw [hB, hE] at HW
  rw [hB]
  have H0 := hid h0
  clear eB ds dl hB hE h0 p1 p2 p3
  go_enter Tryz.func25, Tryz.ntmps25
  go_wp2_with fail
  refine (R1 _).out.mono ?_; rintro e w1 ⟨⟨v, rfl, hq, -⟩, hb1⟩
  have Q1 := hid (hq H0.out)
  obtain ⟨m, a, n, c, a', n', c', rfl⟩ := (hq H0.out).qv
  rw [H0.out]
  have A1 := hid ((Below.refl w1.heap.size w1).alloc (Nat.le_refl _) (.cells #[.bool false, .slice a n c, .slice a' n' c'] 79))
  have Q2 := hid ((isQ_absI Q1.out).call A1.out)
  have y1 := hid (bnext hb1 A1.out)
  clear hb1 hq Q1
  go_wp2_with fail
  refine (HW _ _ Q2.out).out.mono ?_; rintro e w2 ⟨rfl, hb2⟩
  have y2 := hid (bnext y1.out hb2); clear hb2
  go_wp2_with fail
  go_ret2
  exact ⟨⟨_, rfl⟩, y2.out⟩
 ·rw [abB, if_neg h0]
  obtain ⟨x, hx⟩ : ∃ x, qE s = x := ⟨_, rfl⟩
  have H0 := hid h0; have HX := hid hx
  rw [hx] at h0
  have q0 : (x != 0) = true := by simpa using h0
  clear h0 hx
  go_enter Tryz.func25, Tryz.ntmps25
  go_wp2_with fail
  refine (R1 _).out.mono ?_; rintro e w1 ⟨⟨v, rfl, -, hq⟩, hb1⟩
  rw [hq H0.out, HX.out]
  have y1 := hid hb1
  clear hb1 hq
  go_wp2_with fail
  go_ret2
  exact ⟨⟨_, rfl⟩, y1.out.alloc y1.out.size _⟩
theorem r2_Div (w : World) (s t : ByteArray) (hs : s.size ≤ 1000000) (ht : t.size ≤ 1000000) (hz : qE t = 0 → vQ t ≠ 0) :
 Calls Tryz.prog 50 #[.string s, .string t] w fun e w' => (∃ E, e = .returned (.tuple #[.string (op2B (· / ·) s t), .int .i64 E])) ∧ Below w.heap.size w w' := by
 have R1 := fun V => hid (r2_two V s t hs ht)
 clear hs ht
 by_cases h0 : qE s = 0 ∧ qE t = 0
 ·have eB : op2B (· / ·) s t = outB (vQ s * (vQ t)⁻¹) := by rw [op2B, if_pos h0, Rat.div_def]
  rw [eB]
  have ht0 := hz h0.2
  have ds := dig_of_fits (vQ_fits h0.1)
  have dt0 := dig_of_fits (vQ_fits h0.2)
  have dt := dig_inv ht0 dt0
  have dl := hid ((dig_mul ds dt).limbs (L := 1000000) (by omega) (by omega))
  have HO := fun V v u hp hq => hid (op_times V v u (vQ s) (vQ t)⁻¹ hp hq ds dt)
  have HG := fun V v h => hid (r2_Over V v (vQ t) h ht0)
  have HW := fun V v h => hid (r2_Write V v (vQ s * (vQ t)⁻¹) h dl.out.1 dl.out.2)
  have hk0 : (limbs (vQ t).num.natAbs).length ≠ 0 := by
   intro e
   have := limbs_none.1 e
   exact ht0 (Rat.num_eq_zero.1 (by omega))
  obtain ⟨oB, hB⟩ : ∃ x, outB (vQ s * (vQ t)⁻¹) = x := ⟨_, rfl⟩
  obtain ⟨oE, hE⟩ : ∃ x, outE (vQ s * (vQ t)⁻¹) = x := ⟨_, rfl⟩
  rw [hB, hE] at HW
  rw [hB]
  have H0 := hid h0
  have HK0 := hid hk0
  clear eB ds dt dt0 dl hB hE h0 ht0 hz hk0
  go_enter Tryz.func50, Tryz.ntmps50
  go_wp2_with fail
  refine (R1 _).out.mono ?_; rintro e w1 ⟨⟨m, a, n, c, a', n', c', m2, b, j, d, b', j', d', rfl, hq⟩, hb1⟩
  obtain ⟨q1, q2⟩ := hq H0.out.1 H0.out.2
  have hj0 : j ≠ 0 := by
   obtain ⟨N, D, e, h1, h2⟩ := q2.ex
   injection e with e
   have e2 := congrArg Array.toList e
   injection e2 with e3 e4
   injection e4 with e5 e6
   subst e5
   obtain ⟨a9, c9, e9, -⟩ := h1.openI
   injection e9 with f1 f2 f3
   rw [f2]
   exact HK0.out
  have t0 : ((j : Int) == 0) = false := by rw [beq_eq_false_iff_ne]; omega
  rw [if_pos H0.out.1, H0.out.2]
  have b0 := hid (((Below.refl w1.heap.size w1).alloc (Nat.le_refl _) (.cells #[.bool m, .slice a n c, .slice a' n' c'] 79)).alloc (by simp) (.cells #[.bool m2, .slice b j d, .slice b' j' d'] 79))
  have Y0 := hid ((Blk.new w1 #[.bool m, .slice a n c, .slice a' n' c'] 79).alloc (.cells #[.bool m2, .slice b j d, .slice b' j' d'] 79))
  have Y1 := hid (Blk.made (w1.alloc (.cells #[.bool m, .slice a n c, .slice a' n' c'] 79)) #[.bool m2, .slice b j d, .slice b' j' d'] 79 (n := w1.heap.size + 1) (by simp))
  have y2 := hid (bnext hb1 b0.out)
  have Q1 := hid (q1.call b0.out); have Q2 := hid (q2.call b0.out)
  clear hb1 q1 q2 hq R1 hj0
  go_wp2_with fail
  obtain ⟨W, hW⟩ : ∃ W, (w1.alloc (.cells #[.bool m, .slice a n c, .slice a' n' c'] 79)).alloc (.cells #[.bool m2, .slice b j d, .slice b' j' d'] 79) = W := ⟨_, rfl⟩
  rw [hW] at Y0 Y1 y2 Q1 Q2 ⊢
  have KK : Hid (∀ w', Below W.heap.size W w' → w'.cell? ⟨w1.heap.size, 0, none⟩ = some (.bool m) ∧ w'.cell? ⟨w1.heap.size, 1, none⟩ = some (.slice a n c) ∧ w'.cell? ⟨w1.heap.size, 2, none⟩ = some (.slice a' n' c') ∧ w'.cell? ⟨w1.heap.size + 1, 0, none⟩ = some (.bool m2) ∧ w'.cell? ⟨w1.heap.size + 1, 1, none⟩ = some (.slice b j d) ∧ w'.cell? ⟨w1.heap.size + 1, 2, none⟩ = some (.slice b' j' d')) := fun w' hb =>
   ⟨(Y0.out.call hb).cell 0, (Y0.out.call hb).cell 1, (Y0.out.call hb).cell 2, (Y1.out.call hb).cell 0, (Y1.out.call hb).cell 1, (Y1.out.call hb).cell 2⟩
  clear b0 hW
  refine held_plain [0, 1] 7 (fun w' => w'.cell? ⟨w1.heap.size, 0, none⟩ = some (.bool m) ∧ w'.cell? ⟨w1.heap.size, 1, none⟩ = some (.slice a n c) ∧ w'.cell? ⟨w1.heap.size, 2, none⟩ = some (.slice a' n' c') ∧ w'.cell? ⟨w1.heap.size + 1, 0, none⟩ = some (.bool m2) ∧ w'.cell? ⟨w1.heap.size + 1, 1, none⟩ = some (.slice b j d) ∧ w'.cell? ⟨w1.heap.size + 1, 2, none⟩ = some (.slice b' j' d')) (by kernel_rfl) (by kernel_rfl) (by kernel_rfl) (by kernel_rfl) (KK.out _ (Below.refl _ _).drew) ?_
  iterate 2
   refine ⟨_, rfl, ?_⟩
   apply Exists.intro
   refine ⟨.inl ⟨by rfl, ?_⟩, ?_⟩
   ·(intro W' hW'; obtain ⟨q1, q2, q3, q4, q5, q6⟩ := hW'; go_simp; try (with_reducible rfl))
   (dsimp only [Act.put]; try simp only [List.setIfInBounds_toArray, List.set_cons_zero, List.set_cons_succ])
  refine held_one (i := 2) (by kernel_rfl) (by rfl) (by rfl) ?_
  go_wp2_with fail
  refine (HG _ _ (Q2.out.call (Below.refl _ _).drew)).out.mono ?_; rintro e w3 ⟨⟨v3, rfl, hv3⟩, hb3⟩
  have x3 := hid (show Below W.heap.size W w3 from (Below.refl _ _).drew.trans hb3)
  have N3 := hid hv3
  obtain ⟨m5, a5, n5, c5, a6, n6, c6, rfl⟩ := hv3.qv
  clear hb3 hv3
  go_wp2_with fail
  refine ⟨KK.out _ x3.out, ?_⟩
  refine held_one (i := 3) (by kernel_rfl) (by rfl) (by rfl) ?_
  go_wp2_with fail
  refine (HO _ _ _ (Q1.out.call x3.out) N3.out).out.mono ?_; rintro e w4 ⟨⟨v4, rfl, hv4⟩, hb4⟩
  have x4 := hid (bnext x3.out hb4)
  have N4 := hid hv4
  obtain ⟨m7, a7, n7, c7, a8, n8, c8, rfl⟩ := hv4.qv
  clear hb4 hv4
  go_wp2_with fail
  refine ⟨KK.out _ x4.out, ?_⟩
  refine held_one (i := 4) (by kernel_rfl) (by rfl) (by rfl) ?_
  go_wp2_with fail
  refine (HW _ _ N4.out).out.mono ?_; rintro e w5 ⟨rfl, hb5⟩
  have x5 := hid (bnext x4.out hb5)
  clear hb5
  go_wp2_with fail
  refine ⟨KK.out _ x5.out, ?_⟩
  refine held_more (is := [5, 6, 7, 8]) (g := 0) (by kernel_rfl) rfl (KK.out _ x5.out) (by kernel_rfl) ?_
  iterate 4
   refine ⟨_, rfl, ?_⟩
   apply Exists.intro
   refine ⟨.inl ⟨by rfl, ?_⟩, ?_⟩
   ·(intro W' hW'; obtain ⟨q1, q2, q3, q4, q5, q6⟩ := hW'; go_simp; try (with_reducible rfl))
   (dsimp only [Act.put]; try simp only [List.setIfInBounds_toArray, List.set_cons_zero, List.set_cons_succ])
  refine wpAnyH_done (by kernel_rfl) ?_ _
  simp only [Only]
  go_wp2_with fail
  go_ret2
  exact ⟨⟨_, rfl⟩, bnext y2.out x5.out⟩
 ·obtain ⟨n0, eB, eE⟩ := op2_err (f := (· / ·)) h0
  rw [eB]
  obtain ⟨x, hx⟩ : ∃ x, (if qE s = 0 then qE t else qE s) = x := ⟨_, rfl⟩
  rw [hx] at n0
  have q0 : (x != 0) = true := by simpa using n0
  have HX := hid hx
  clear h0 n0 eB eE hx hz
  go_enter Tryz.func50, Tryz.ntmps50
  go_wp2_with fail
  refine (R1 _).out.mono ?_; rintro e w1 ⟨⟨m, a, n, c, a', n', c', m2, b, j, d, b', j', d', rfl, -⟩, hb1⟩
  rw [HX.out]
  have y2 := hid ((hb1.alloc hb1.size (.cells #[.bool m, .slice a n c, .slice a' n' c'] 79)).alloc (Nat.le_trans hb1.size (by simp)) (.cells #[.bool m2, .slice b j d, .slice b' j' d'] 79))
  clear hb1
  go_wp2_with fail
  go_ret2
  exact ⟨⟨_, rfl⟩, y2.out⟩
open Go.Shelf
theorem map_step {f : ByteArray → ByteArray} {L : List ByteArray} {j : Nat} {x : ByteArray} (h : L[j]? = some x) : ((L.take j).map f ++ L.drop j)[j]? = some x ∧ ((L.take j).map f ++ L.drop j).set j (f x) = (L.take (j + 1)).map f ++ L.drop (j + 1) := by
 obtain ⟨hj, e⟩ := List.getElem?_eq_some_iff.1 h
 have hd : L.drop j = x :: L.drop (j + 1) := by rw [List.drop_eq_getElem_cons hj, e]
 have hl : ((L.take j).map f).length = j := by rw [List.length_map, List.length_take]; omega
 refine ⟨?_, ?_⟩
 ·rw [List.getElem?_append_right (by omega), hl, Nat.sub_self, hd]; rfl
 ·rw [List.set_append_right _ _ (by omega), hl, Nat.sub_self, hd, List.set_cons_zero, List.take_add_one, h, Option.toList_some, List.map_append, List.append_assoc]; rfl
theorem abB_size (s : ByteArray) : (abB s).size ≤ 10000 := by
 unfold abB
 split
 ·unfold outB
  split
  ·exact Nat.zero_le _
  ·rename_i h
   exact tx_size h
 ·exact Nat.zero_le _
theorem w_share (w : World) (v : Value) (l : List ByteArray) (t : ByteArray) (hv : Row w v (strs l)) (hp : 0 < l.length) (h12 : l.length ≤ 12) (hz : ∀ s ∈ l, s.size ≤ 1000000) (zt : t.size ≤ 1000000) (hS0 : vQ (shS l) ≠ 0) :
 Calls Tryz.prog 18 #[v, .string t] w fun e w' => (∃ u, e = .returned u ∧ Row w' u (strs (shrB l t))) ∧ Below w.heap.size w w' := by
 obtain ⟨i0, hi, hz0, hz1, hz2⟩ := info_parts info_numO
 have PAb := fun V s h => hid (r2_Abs V s h)
 have PM := fun V x (h : x.size ≤ 1000000) => hid (r2_Mul V x t h zt)
 have hSS : (shS l).size ≤ 10000 := by
  unfold shS
  split
  ·show (1 : Nat) ≤ 10000
   omega
  ·exact sumB_size _
 have PD := fun V x (h : x.size ≤ 1000000) => hid (r2_Div V x (shS l) h (by omega) (fun _ => hS0))
 have HRES := hid (show shrB l t = (shA l).map (shF t (shS l)) from rfl)
 have HV := hid hv
 obtain ⟨a, c, rfl, h1, h2, h3⟩ := hv.openS
 obtain ⟨n, hn⟩ : ∃ n, l.length = n := ⟨_, rfl⟩
 rw [hn] at h1 ⊢
 have H3 := hid h3; have HN := hid hn; have HZ := hid hz
 obtain ⟨m, rfl⟩ : ∃ m, n = m + 1 := ⟨n - 1, by omega⟩
 have M12 := hid (show m + 1 ≤ 12 by omega)
 have AL := hid (show (l.map abB).length = m + 1 by rw [List.length_map, hn])
 have PSm := fun V x hx => hid (w_sum V x (l.map abB) hx (fun s hs => by obtain ⟨y, -, rfl⟩ := List.mem_map.1 hs; have := abB_size y; omega))
 clear hv h3 hn hz hSS
 go_enter Tryz.func18, Tryz.ntmps18
 go_wp2_with fail
 go_loopw [5, 6, 7, 8] (fun s5 s6 s7 s8 wr => ∃ i : Nat, s6 = .int .i64 (i : Nat) ∧ i ≤ m + 1 ∧ Hid (wr.ownsRow w.heap.size 23 1 s5 i (strs ((l.take i).map abB))) ∧ Hid (Below w.heap.size w wr)) (fun s5 s6 s7 s8 wr => m + 1 - (intOf s6).toNat)
 case atStart => exact ⟨0, rfl, Nat.zero_le _, World.ownsRow_nil _ _ _ _, Below.refl _ _⟩
 case round =>
  obtain ⟨i, rfl, hi', hO, hB⟩ := hrel
  by_cases hlt : i < m + 1
  ·obtain ⟨x, hx⟩ : ∃ x, l[i]? = some x := ⟨_, List.getElem?_eq_getElem (by rw [HN.out]; exact hlt)⟩
   obtain ⟨g, o, rfl, hg, k1⟩ := H3.out i x hx
   have m1 := (hB.out.cell (p := ⟨g, o + i, none⟩) hg).trans k1
   have PAx := fun V => PAb V x (HZ.out x (List.mem_of_getElem? hx))
   obtain ⟨T, hT⟩ : ∃ T, abB x = T := ⟨_, rfl⟩
   rw [hT] at PAx
   have f1 : (0 : Int) ≤ (i : Int) := by omega
   have f2 : (i : Int) < ((m + 1 : Nat) : Int) := by omega
   have f3 : (i : Int) < (m : Int) + 1 := by omega
   have wi : IntKind.i64.wrap ((i : Int) + 1) = ((i + 1 : Nat) : Int) := by have := M12.out; rw [IntWalk.i64_in _ ⟨by omega, by omega⟩]; omega
   have HLT := hid hlt; have HX := hid hx; have HT := hid hT
   clear k1 hx hg hT hlt
   go_wp2_with fail
   refine (PAx _).out.mono ?_; rintro e w2 ⟨⟨E, rfl⟩, hb2⟩
   have y2 := hid (hB.out.trans (hb2.mono hB.out.size))
   have O2 := hid (owns_call hO.out hb2)
   have OA := hid (owns_call O2.out ((Below.refl _ _).alloc (Nat.le_refl _) (.cells #[.string T] 23)))
   have YA := hid (y2.out.alloc y2.out.size (.cells #[.string T] 23))
   have Z2 := hid (Blk.new w2 #[.string T] 23)
   clear hb2 m1
   go_wp2_with (at_builtin; refine wpList_append_own_at _ rfl _ _ 22 rfl w.heap.size 23 i0 (.string ⟨#[]⟩) 1 16 Tryz.underlying22 hi hz0 hz1 hz2 rfl (by decide) _ i (strs ((l.take i).map abB)) rfl OA.out ⟨w2.heap.size, 0, none⟩ 1 1 [.string T] rfl rfl (news_blk Z2.out) (by simp [Value.oneCell']) (by have := M12.out; have := HLT.out; unfold maxLen; omega) (by have := M12.out; have := HLT.out; omega) (by have := y2.out.size; simp; omega) ?_
                intro v' w3 hown hgrow _ hat
                have O3 := hid (show w3.ownsRow w.heap.size 23 1 v' (i + 1) (strs ((l.take (i + 1)).map abB)) by rw [List.take_add_one, HX.out, Option.toList_some, List.map_append, List.map_cons, List.map_nil, HT.out, strs_snoc]; exact hown)
                have B3 := hid (owned_below OA.out YA.out hgrow)
                clear hown hgrow hat)
   go_roundw
   case rel => exact ⟨i + 1, by go_num, by have := HLT.out; omega, O3, B3⟩
   case measure => simp [intOf] <;> (have := HLT.out; omega)
  ·obtain rfl : i = m + 1 := by omega
   have hT : l.take (m + 1) = l := List.take_of_length_le (by rw [HN.out]; exact Nat.le_refl _)
   rw [hT] at hO
   have q1 : decide (((m + 1 : Nat) : Int) < ((m + 1 : Nat) : Int)) = false := by simp
   have q2 : decide ((m : Int) + 1 < (m : Int) + 1) = false := by simp
   obtain ⟨g, cap, rfl⟩ := ownsRow_succ hO.out
   have RR := hid (Row.of_owns hO.out)
   have SH1 := hid (show shA l = if sumB (l.map abB) = t0B then (l.map abB).set 0 o1B else l.map abB from rfl)
   have SH2 := hid (show shS l = if sumB (l.map abB) = t0B then o1B else sumB (l.map abB) from rfl)
   obtain ⟨A0, hA0⟩ : ∃ A, l.map abB = A := ⟨_, rfl⟩
   rw [hA0] at AL PSm hO RR SH1 SH2
   have AZ0 := hid (show ∀ x ∈ A0, x.size ≤ 1000000 by rw [← hA0]; intro x hx; obtain ⟨y, -, rfl⟩ := List.mem_map.1 hx; have := abB_size y; omega)
   obtain ⟨S0, hS0'⟩ : ∃ A, sumB A0 = A := ⟨_, rfl⟩
   rw [hS0'] at PSm SH1 SH2
   obtain ⟨A, hA⟩ : ∃ A, shA l = A := ⟨_, rfl⟩
   obtain ⟨S, hS⟩ : ∃ A, shS l = A := ⟨_, rfl⟩
   have HS := hid hS
   obtain ⟨f, hf⟩ : ∃ f, shF t (shS l) = f := ⟨_, rfl⟩
   have HF := hid hf.symm
   rw [hA] at SH1 HRES
   rw [hS] at SH2 PD
   rw [hf] at HRES
   have s7 : (0 : Int) ≤ 0 := by omega
   have s8 : (0 : Int) < (m : Int) + 1 := by omega
   clear hlt hT hA0 hS0' hA hS hf hi'
   go_wp2_with fail
   refine (PSm _ _ RR.out).out.mono ?_; rintro e w2 ⟨rfl, hb2⟩
   have d2 := hid hb2
   have y2 := hid (hB.out.trans (hb2.mono hB.out.size))
   have O2 := hid (owns_call hO.out hb2)
   clear hb2
   by_cases hc : S0 = ⟨#[48]⟩
   ·subst hc
    have e1 : A = A0.set 0 o1B := by rw [SH1.out, if_pos (show (⟨#[48]⟩ : ByteArray) = t0B from rfl)]
    have e2 : S = ⟨#[49]⟩ := by rw [SH2.out, if_pos (show (⟨#[48]⟩ : ByteArray) = t0B from rfl)]; rfl
    obtain ⟨k1, k2, k3, k4, k5, k6, -⟩ := own_slot O2.out
    obtain ⟨z0, hz0'⟩ : ∃ x, A0[0]? = some x := ⟨_, List.getElem?_eq_getElem (by rw [AL.out]; omega)⟩
    have f4 := k3 0
    have c4 := k4 0 _ (strs_get hz0')
    have O3 := hid (own_set O2.out 0 (.string ⟨#[49]⟩))
    rw [strs_set] at O3
    have SB := hid (y2.out.setCell (p := ⟨g, 0, none⟩) k1 (.string ⟨#[49]⟩))
    have ST := hid (show (w2.setCell ⟨g, 0, none⟩ (.string ⟨#[49]⟩)).ownsRow w.heap.size 23 1 (.slice (some ⟨g, 0, none⟩) (m + 1) cap) (m + 1) (strs ((A.take 0).map f ++ A.drop 0)) by rw [List.take_zero, List.drop_zero, List.map_nil, List.nil_append, e1]; exact O3.out)
    have HA := hid (show A.length = m + 1 by rw [e1, List.length_set, AL.out])
    have AZ := hid (show ∀ x ∈ A, x.size ≤ 1000000 by
     rw [e1]
     intro x hx
     rcases List.mem_or_eq_of_mem_set hx with hx | rfl
     ·exact AZ0.out x hx
     ·show (1 : Nat) ≤ 1000000
      omega)
    subst e2
    clear k1 k2 k3 k4 k5 k6 e1 hz0' AZ0
    go_wp2_with fail
    go_loopw [10, 11, 12] (fun s10 s11 s12 wr => ∃ j : Nat, s10 = .int .i64 (j : Nat) ∧ j ≤ m + 1 ∧ Hid (wr.ownsRow w.heap.size 23 1 (.slice (some ⟨g, 0, none⟩) (m + 1) cap) (m + 1) (strs ((A.take j).map f ++ A.drop j))) ∧ Hid (Below w.heap.size w wr)) (fun s10 s11 s12 wr => m + 1 - (intOf s10).toNat)
    case atStart => exact ⟨0, rfl, Nat.zero_le _, ST.out, SB.out⟩
    case round =>
     obtain ⟨j, rfl, hj, hO, hB⟩ := hrel
     by_cases hlt : j < m + 1
     ·obtain ⟨x, hx⟩ : ∃ x, A[j]? = some x := ⟨_, List.getElem?_eq_getElem (by rw [HA.out]; exact hlt)⟩
      obtain ⟨e1, e2⟩ := map_step (f := f) hx
      have E2 := hid e2
      have E1 := hid (strs_get e1)
      obtain ⟨k1, k2, k3, k4, k5, k6, -⟩ := own_slot hO.out
      have m1 := k4 j _ (strs_get e1)
      have K1 := hid k1
      have PMx := fun V => PM V x (AZ.out x (List.mem_of_getElem? hx))
      have DS := o2_size (· * ·) x t
      have EF := hid (show f x = op2B (· / ·) (op2B (· * ·) x t) ⟨#[49]⟩ by rw [HF.out]; unfold shF; rw [HS.out])
      obtain ⟨D, hD⟩ : ∃ D, op2B (· * ·) x t = D := ⟨_, rfl⟩
      obtain ⟨ED, hED⟩ : ∃ D, op2E (· * ·) x t = D := ⟨_, rfl⟩
      rw [hD, hED] at PMx
      rw [hD] at DS EF
      have PDx := fun V => PD V D (by omega)
      obtain ⟨R, hR⟩ : ∃ r, op2B (· / ·) D ⟨#[49]⟩ = r := ⟨_, rfl⟩
      rw [hR] at PDx EF
      have b1 : (0 : Int) ≤ (j : Int) := by omega
      have b2 : (j : Int) < ((m + 1 : Nat) : Int) := by omega
      have b3 : (j : Int) < (m : Int) + 1 := by omega
      have wi : IntKind.i64.wrap ((j : Int) + 1) = ((j + 1 : Nat) : Int) := by have := M12.out; rw [IntWalk.i64_in _ ⟨by omega, by omega⟩]; omega
      have JL := hid hlt
      clear hx e1 e2 k1 k2 k3 k4 k5 k6 DS hD hED hR hlt
      go_wp2_with fail
      refine (PMx _).out.mono ?_; rintro e w3 ⟨rfl, hb3⟩
      have d3 := hid hb3; clear hb3 m1
      go_wp2_with fail
      refine (PDx _).out.mono ?_; rintro e w4 ⟨⟨E4, rfl⟩, hb4⟩
      have d4 := hid (bnext d3.out hb4); clear hb4
      have O4 := hid (owns_call hO.out d4.out)
      obtain ⟨k1, k2, k3, k4, k5, k6, -⟩ := own_slot O4.out
      have f4 := k3 j
      have c4 := k4 j _ E1.out
      have O5 := hid (own_set O4.out j (.string R))
      rw [strs_set, ← EF.out, E2.out, EF.out] at O5
      have B5 := hid ((hB.out.trans (d4.out.mono hB.out.size)).setCell (p := ⟨g, j, none⟩) K1.out (.string R))
      clear k1 k2 k3 k4 k5 k6
      go_wp2_with fail
      go_roundw
      case rel => exact ⟨j + 1, by go_num, by have := JL.out; omega, O5, B5⟩
      case measure => simp [intOf] <;> (have := JL.out; omega)
     ·obtain rfl : j = m + 1 := by omega
      have q1 : decide (((m + 1 : Nat) : Int) < ((m + 1 : Nat) : Int)) = false := by simp
      have q2 : decide ((m : Int) + 1 < (m : Int) + 1) = false := by simp
      have hT : (A.take (m + 1)).map f ++ A.drop (m + 1) = A.map f := by rw [List.take_of_length_le (by rw [HA.out]; exact Nat.le_refl _), List.drop_of_length_le (by rw [HA.out]; exact Nat.le_refl _), List.append_nil]
      rw [hT] at hO
      clear hlt hT
      go_wp2_with fail
      go_ret
      refine ⟨⟨_, rfl, ?_⟩, hB.out⟩
      have := Row.of_owns hO.out
      rw [HRES.out]
      exact this
   ·have n1 : (S0.toList == [48]) = false := ne_lit hc
    have e1 : A = A0 := by rw [SH1.out, if_neg (show ¬ S0 = t0B from hc)]
    have e2 : S = S0 := by rw [SH2.out, if_neg (show ¬ S0 = t0B from hc)]
    subst e2
    have ST := hid (show w2.ownsRow w.heap.size 23 1 (.slice (some ⟨g, 0, none⟩) (m + 1) cap) (m + 1) (strs ((A.take 0).map f ++ A.drop 0)) by rw [List.take_zero, List.drop_zero, List.map_nil, List.nil_append, e1]; exact O2.out)
    have SB := hid y2.out
    have HA := hid (show A.length = m + 1 by rw [e1, AL.out])
    have AZ := hid (show ∀ x ∈ A, x.size ≤ 1000000 by rw [e1]; exact AZ0.out)
    clear hc e1 AZ0
    go_wp2_with fail
    go_loopw [10, 11, 12] (fun s10 s11 s12 wr => ∃ j : Nat, s10 = .int .i64 (j : Nat) ∧ j ≤ m + 1 ∧ Hid (wr.ownsRow w.heap.size 23 1 (.slice (some ⟨g, 0, none⟩) (m + 1) cap) (m + 1) (strs ((A.take j).map f ++ A.drop j))) ∧ Hid (Below w.heap.size w wr)) (fun s10 s11 s12 wr => m + 1 - (intOf s10).toNat)
    case atStart => exact ⟨0, rfl, Nat.zero_le _, ST.out, SB.out⟩
    case round =>
     obtain ⟨j, rfl, hj, hO, hB⟩ := hrel
     by_cases hlt : j < m + 1
     ·obtain ⟨x, hx⟩ : ∃ x, A[j]? = some x := ⟨_, List.getElem?_eq_getElem (by rw [HA.out]; exact hlt)⟩
      obtain ⟨e1, e2⟩ := map_step (f := f) hx
      have E2 := hid e2
      have E1 := hid (strs_get e1)
      obtain ⟨k1, k2, k3, k4, k5, k6, -⟩ := own_slot hO.out
      have m1 := k4 j _ (strs_get e1)
      have K1 := hid k1
      have PMx := fun V => PM V x (AZ.out x (List.mem_of_getElem? hx))
      have DS := o2_size (· * ·) x t
      have EF := hid (show f x = op2B (· / ·) (op2B (· * ·) x t) S by rw [HF.out]; unfold shF; rw [HS.out])
      obtain ⟨D, hD⟩ : ∃ D, op2B (· * ·) x t = D := ⟨_, rfl⟩
      obtain ⟨ED, hED⟩ : ∃ D, op2E (· * ·) x t = D := ⟨_, rfl⟩
      rw [hD, hED] at PMx
      rw [hD] at DS EF
      have PDx := fun V => PD V D (by omega)
      obtain ⟨R, hR⟩ : ∃ r, op2B (· / ·) D S = r := ⟨_, rfl⟩
      rw [hR] at PDx EF
      have b1 : (0 : Int) ≤ (j : Int) := by omega
      have b2 : (j : Int) < ((m + 1 : Nat) : Int) := by omega
      have b3 : (j : Int) < (m : Int) + 1 := by omega
      have wi : IntKind.i64.wrap ((j : Int) + 1) = ((j + 1 : Nat) : Int) := by have := M12.out; rw [IntWalk.i64_in _ ⟨by omega, by omega⟩]; omega
      have JL := hid hlt
      clear hx e1 e2 k1 k2 k3 k4 k5 k6 DS hD hED hR hlt
      go_wp2_with fail
      refine (PMx _).out.mono ?_; rintro e w3 ⟨rfl, hb3⟩
      have d3 := hid hb3; clear hb3 m1
      go_wp2_with fail
      refine (PDx _).out.mono ?_; rintro e w4 ⟨⟨E4, rfl⟩, hb4⟩
      have d4 := hid (bnext d3.out hb4); clear hb4
      have O4 := hid (owns_call hO.out d4.out)
      obtain ⟨k1, k2, k3, k4, k5, k6, -⟩ := own_slot O4.out
      have f4 := k3 j
      have c4 := k4 j _ E1.out
      have O5 := hid (own_set O4.out j (.string R))
      rw [strs_set, ← EF.out, E2.out, EF.out] at O5
      have B5 := hid ((hB.out.trans (d4.out.mono hB.out.size)).setCell (p := ⟨g, j, none⟩) K1.out (.string R))
      clear k1 k2 k3 k4 k5 k6
      go_wp2_with fail
      go_roundw
      case rel => exact ⟨j + 1, by go_num, by have := JL.out; omega, O5, B5⟩
      case measure => simp [intOf] <;> (have := JL.out; omega)
     ·obtain rfl : j = m + 1 := by omega
      have q1 : decide (((m + 1 : Nat) : Int) < ((m + 1 : Nat) : Int)) = false := by simp
      have q2 : decide ((m : Int) + 1 < (m : Int) + 1) = false := by simp
      have hT : (A.take (m + 1)).map f ++ A.drop (m + 1) = A.map f := by rw [List.take_of_length_le (by rw [HA.out]; exact Nat.le_refl _), List.drop_of_length_le (by rw [HA.out]; exact Nat.le_refl _), List.append_nil]
      rw [hT] at hO
      clear hlt hT
      go_wp2_with fail
      go_ret
      refine ⟨⟨_, rfl, ?_⟩, hB.out⟩
      have := Row.of_owns hO.out
      rw [HRES.out]
      exact this
theorem k_PickU (x : Int) (n : Nat) (h0 : 0 < n) (hn : n ≤ 1000000) (h1 : -9223372036854775808 ≤ x) (h2 : x ≤ 9223372036854775807) :
 ∃ i : Nat, i < n ∧ ∀ w, Calls Tryz.prog 14 #[.int .i64 x, .int .i64 (n : Nat)] w fun e w' => e = .returned (.int .i64 (i : Nat)) ∧ w = w' := by
 have r1 := Int.tmod_lt_of_pos x (show (0 : Int) < n by omega)
 have r2 := Int.lt_tmod_of_pos x (show (0 : Int) < n by omega)
 obtain ⟨r, hr⟩ : ∃ r, x.tmod (n : Int) = r := ⟨_, rfl⟩
 rw [hr] at r1 r2
 have e0 : IntKind.i64.wrap r = r := by rw [IntWalk.i64_in _ ⟨by omega, by omega⟩]
 have hz : ((n : Int) == 0) = false := by rw [beq_eq_false_iff_ne]; omega
 by_cases hneg : r < 0
 ·have q0 : decide (r < 0) = true := by simp; omega
  obtain ⟨i, hi⟩ : ∃ i : Nat, r + (n : Int) = i := ⟨(r + n).toNat, by omega⟩
  have e1 : IntKind.i64.wrap (r + (n : Int)) = r + (n : Int) := by rw [IntWalk.i64_in _ ⟨by omega, by omega⟩]
  refine ⟨i, by omega, fun w => ?_⟩
  rw [← hi]
  clear hi hneg
  go_enter Tryz.func14, Tryz.ntmps14
  go_wp2_with fail
  go_ret
  exact ⟨rfl, rfl⟩
 ·have q0 : decide (r < 0) = false := by simp; omega
  obtain ⟨i, hi⟩ : ∃ i : Nat, r = i := ⟨r.toNat, by omega⟩
  refine ⟨i, by omega, fun w => ?_⟩
  rw [← hi]
  clear hi hneg
  go_enter Tryz.func14, Tryz.ntmps14
  go_wp2_with fail
  go_ret
  exact ⟨rfl, rfl⟩
theorem smx_walk (w : World) (v u : Value) (l o : List ByteArray) (t : ByteArray) (p q : Int) (hv : Row w v (strs l)) (hu : Row w u (strs o)) (hL : Lay w) (V1 : VL 20 l) (V2 : VL 20 o) (hlo : l.length ≤ o.length) (ht : qE t = 0) (hts : t.size ≤ 20) (h0 : lstB t0B t = true)
 (hv1 : validB l = true) (hv2 : validB o = true) (hv3 : validB [t] = true) (hp1 : -9223372036854775808 ≤ p) (hp2 : p ≤ 9223372036854775807) (hq1 : -9223372036854775808 ≤ q) (hq2 : q ≤ 9223372036854775807) :
 Calls Tryz.prog 3 #[v, u, .string t, .int .i64 p, .int .i64 q] w fun e w' => e = .returned (.bool true) ∧ Below w.heap.size w w' := by
 have hp := V1.pos
 have hn12 := V1.le
 obtain ⟨i, hi, PP⟩ := k_PickU p l.length hp (by omega) hp1 hp2
 obtain ⟨k, hk, PQ⟩ := k_PickU q l.length hp (by omega) hq1 hq2
 have HT := smx_main V1 V2 hlo ht hts h0 hi hk
 have PL := hid (w_lives29 w hL)
 have HL := hid hL
 have z1 : ∀ s ∈ l, s.size ≤ 1000000 := fun s hs => by have := V1.sz s hs; omega
 have z2 : ∀ s ∈ o, s.size ≤ 1000000 := fun s hs => by have := V2.sz s hs; omega
 have zt : t.size ≤ 1000000 := by omega
 have PV1 := fun V x hx => hid (w_valid V x l hx (fun s hs => by have := z1 s hs; omega))
 have PV2 := fun V x hx => hid (w_valid V x o hx (fun s hs => by have := z2 s hs; omega))
 have PV3 := fun V x hx => hid (w_valid V x [t] hx (fun s hs => by simp at hs; subst hs; omega))
 rw [hv1] at PV1
 rw [hv2] at PV2
 rw [hv3] at PV3
 have PZ := fun V => hid (w_least V t0B t (by show (1 : Nat) ≤ 1000000; omega) zt)
 rw [h0] at PZ
 have PC := fun V x hx hV => hid (s_Simplex V x l t hx z1 zt hV hn12)
 obtain ⟨e0, hlen, hsum, hnn, ⟨ha1, ha2⟩, ⟨hw1, hw2⟩, hclo, hsz, hshz⟩ := HT
 have z3 : ∀ s ∈ smR l t, s.size ≤ 1000000 := fun s hs => by have := hsz s hs; omega
 have PS := fun V x hx => hid (w_sum V x (smR l t) hx z3)
 rw [hsum] at PS
 have PN := fun V (s : ByteArray) (h : s ∈ smR l t) => hid (w_least V t0B s (by show (1 : Nat) ≤ 1000000; omega) (z3 s h))
 have HNN := hid (fun V (s : ByteArray) (h : s ∈ smR l t) => (show Hid (Calls Tryz.prog 11 #[.string t0B, .string s] V fun e w' => e = .returned (.bool true) ∧ Below V.heap.size V w') from by have := (PN V s h).out; rw [hnn s h] at this; exact hid this))
 have PC2 := fun V x hx hV => hid (s_Simplex V x (smR l t) t hx z3 zt hV (by omega))
 rw [ha1, ha2] at PC2
 have hswp := swB_perm (d := (⟨#[]⟩ : ByteArray)) hi hk
 have PC3 := fun V x hx hV => hid (s_Simplex V x (swB l ⟨#[]⟩ i k) t hx (fun s hs => z1 s (hswp.mem_iff.1 hs)) zt hV (by rw [swB_len]; omega))
 rw [hw1, hw2] at PC3
 obtain ⟨n, hn⟩ : ∃ n, l.length = n := ⟨_, rfl⟩
 rw [hn] at hlo hlen hclo hi hk PP PQ hshz
 obtain ⟨o', ho'⟩ : ∃ y, o.take n = y := ⟨_, rfl⟩
 have ho'n : o'.length = n := by rw [← ho', List.length_take]; omega
 rw [ho'] at hclo hshz
 have z4 : ∀ s ∈ o', s.size ≤ 1000000 := fun s hs => z2 s (List.mem_of_mem_take (by rw [ho']; exact hs))
 have PO1 := fun V x hx => hid (k_OwnSO V x l hx (by omega))
 have PO2 := fun V x hx => hid (k_OwnSO V x (smR l t) hx (by omega))
 have PSame := fun V x y hx hy => hid (k_SameS V x y (smR l t) (smR l t) hx hy)
 rw [decide_eq_true rfl] at PSame
 have PSame2 := fun V x y hx hy => hid (k_SameS V x y (swB (smR l t) ⟨#[]⟩ i k) (swB (smR l t) ⟨#[]⟩ i k) hx hy)
 rw [decide_eq_true rfl] at PSame2
 have PSh := fun V x hx => hid (w_share V x o' t hx (by omega) (by omega) z4 zt hshz)
 have hsl : (shrB o' t).length = n := by
  unfold shrB
  rw [List.length_map]
  unfold shA
  split
  ·rw [List.length_set, List.length_map, ho'n]
  ·rw [List.length_map, ho'n]
 have z5 : ∀ s ∈ shrB o' t, s.size ≤ 1000000 := fun s hs => by
  unfold shrB at hs
  obtain ⟨y, -, rfl⟩ := List.mem_map.1 hs
  have := o2_size (· / ·) (op2B (· * ·) y t) (shS o')
  unfold shF
  omega
 have PK := fun V x y z hx hy hz => hid (w_closest V x y z l (smR l t) (shrB o' t) hx hy hz (by omega) (by omega) z1 z3 z5)
 rw [hclo] at PK
 obtain ⟨X, hX⟩ : ∃ X, smR l t = X := ⟨_, rfl⟩
 rw [e0] at PC
 rw [hX] at PC PC2 PC3 PS PSame PSame2 PK PO2 hlen hsz HNN
 have HV := hid hv
 have HU := hid hu
 obtain ⟨a1, c1, rfl, q1, q2, q3⟩ := hv.openS
 obtain ⟨a2, c2, rfl, p1, p2, p3⟩ := hu.openS
 obtain ⟨M, hM⟩ : ∃ M, o.length = M := ⟨_, rfl⟩
 rw [hn] at q1 HV ⊢
 rw [hM] at p1 hlo HU ⊢
 have HN := hid hn
 have HXL := hid hlen
 have HO' := hid (show strs o' = (strs o).take n by rw [← ho']; unfold strs; rw [List.map_take])
 have HI := hid hi; have HK := hid hk; have HN12 := hid (show n ≤ 12 by omega); have HLO := hid hlo
 have t2 : decide ((M : Int) < (n : Int)) = false := decide_eq_false (by omega)
 have t2' : decide (M < n) = false := decide_eq_false (by omega)
 have t3 : n ≤ M := by omega
 have t4 : (n : Int) ≤ (M : Int) := by omega
 have s1 : (n : Int) ≤ (c2 : Int) := by omega
 have s2 : (0 : Int) ≤ (n : Int) := by omega
 have HPP := hid PP; have HPQ := hid PQ
 clear PN hnn hv1 hv2 hv3 hv hu hL V1 V2 z1 z2 z3 z4 z5 zt hts ht h0 hsum ha1 ha2 hw1 hw2 hclo hsz ho' hX hn hM q3 p3 hlen e0 ho'n hsl hswp hi hk hp hn12 PP PQ hp1 hp2 hq1 hq2 hshz
 go_enter Tryz.func3, Tryz.ntmps3
 go_wp2_with fail
 refine PL.out.mono ?_; rintro e w1 ⟨rfl, hb1⟩
 have y1 := hid hb1; clear hb1 PL
 go_wp2_with fail
 refine (PV1 _ _ (HV.out.call y1.out)).out.mono ?_; rintro e w2 ⟨rfl, hb2⟩
 have y2 := hid (bnext y1.out hb2); clear hb2
 go_wp2_with fail
 refine (PV2 _ _ (HU.out.call y2.out)).out.mono ?_; rintro e w3 ⟨rfl, hb3⟩
 have y3 := hid (bnext y2.out hb3); clear hb3
 have A3 := hid ((Below.refl w3.heap.size w3).alloc (Nat.le_refl _) (.cells #[.string t] 23))
 have R3 := hid (rowN_lit w3 [t] _ 1 w3.heap.size rfl rfl rfl (by omega))
 go_wp2_with fail
 refine (PV3 _ _ R3.out).out.mono ?_; rintro e w4 ⟨rfl, hb4⟩
 have y4 := hid (bnext y3.out (bnext A3.out hb4)); clear hb4 A3 R3
 go_wp2_with fail
 refine (PZ _).out.mono ?_; rintro e w5 ⟨rfl, hb5⟩
 have y5 := hid (bnext y4.out hb5); clear hb5
 go_wp2_with fail
 refine (PC _ _ (HV.out.call y5.out) (HL.out.call y5.out)).out.mono ?_; rintro e w6 ⟨⟨x6, rfl, hx6⟩, hb6⟩
 have y6 := hid (bnext y5.out hb6); clear hb6
 have X6 := hid hx6
 obtain ⟨a5, c5, rfl, -, -, hc5⟩ := hx6.openS
 rw [HXL.out] at X6 ⊢
 have HC5 := hid hc5
 clear hx6 hc5
 go_wp2_with fail
 refine (PS _ _ X6.out).out.mono ?_; rintro e w7 ⟨rfl, hb7⟩
 have b7 := hid hb7
 have y7 := hid (bnext y6.out hb7)
 have X7 := hid (X6.out.call hb7); clear hb7
 go_wp2_with fail
 go_loopw [13] (fun s13 wr => ∃ j : Nat, s13 = .int .i64 (j : Nat) ∧ j ≤ n ∧ Hid (Below w7.heap.size w7 wr)) (fun s13 wr => n - (intOf s13).toNat)
 case atStart => exact ⟨0, rfl, Nat.zero_le _, Below.refl _ _⟩
 case round =>
  obtain ⟨j, rfl, hj, hB⟩ := hrel
  by_cases hlt : j < n
  ·obtain ⟨x, hx⟩ : ∃ x, X[j]? = some x := ⟨_, List.getElem?_eq_getElem (by rw [HXL.out]; exact hlt)⟩
   obtain ⟨gx, ox, rfl, hgx, kx⟩ := HC5.out j x hx
   have PE := fun V => HNN.out V x (List.mem_of_getElem? hx)
   have m1 := ((bnext b7.out hB.out).cell (p := ⟨gx, ox + j, none⟩) hgx).trans kx
   have f1 : (0 : Int) ≤ (j : Int) := by omega
   have f2 : (j : Int) < (n : Int) := by omega
   have wi : IntKind.i64.wrap ((j : Int) + 1) = ((j + 1 : Nat) : Int) := by have := HN12.out; rw [IntWalk.i64_in _ ⟨by omega, by omega⟩]; omega
   have HLT := hid hlt
   clear hx hgx kx hlt
   go_wp2_with fail
   refine (PE _).out.mono ?_; rintro e w8 ⟨rfl, hb8⟩
   have z8 := hid (bnext hB.out hb8)
   clear hb8
   go_wp2_with fail
   go_roundw
   case rel => exact ⟨j + 1, by go_num, by have := HLT.out; omega, z8⟩
   case measure => simp [intOf] <;> (have := HLT.out; omega)
  ·obtain rfl : j = n := by omega
   have q1 : decide ((j : Int) < (j : Int)) = false := by simp
   have y8 := hid (bnext y7.out hB.out)
   have x8 := hid (X7.out.call hB.out)
   clear hlt HC5 HNN
   go_wp2_with fail
   refine (PC2 _ _ x8.out (HL.out.call y8.out)).out.mono ?_; rintro e w9 ⟨⟨u9, rfl, hu9⟩, hb9⟩
   have d9 := hid hb9
   have A9 := hid hu9
   obtain ⟨a9, c9, rfl, -, -, -⟩ := hu9.openS
   clear hb9 hu9
   go_wp2_with fail
   refine (HPP.out _).mono ?_; rintro e w9a ⟨rfl, rfl⟩
   go_wp2_with fail
   refine (HPQ.out _).mono ?_; rintro e w9b ⟨rfl, rfl⟩
   have i1 : (0 : Int) ≤ (i : Int) := by omega
   have i2 : (i : Int) < (j : Int) := by have := HI.out; omega
   have i3 : (0 : Int) ≤ (k : Int) := by omega
   have i4 : (k : Int) < (j : Int) := by have := HK.out; omega
   go_wp2_with fail
   by_cases hik : i = k
   ·subst hik
    refine (PO1 _ _ (HV.out.call (bnext y8.out d9.out))).out.mono ?_; rintro e w10 ⟨⟨u10, rfl, hown⟩, hbo⟩
    rw [HN.out] at hown
    obtain ⟨ga, capa, rfl⟩ : ∃ g c, u10 = .slice (some ⟨g, 0, none⟩) j c := by
     obtain ⟨m, hm⟩ : ∃ m, j = m + 1 := ⟨j - 1, by have := HI.out; omega⟩
     subst hm
     exact ownsRow_succ hown
    have OWa := hid hown
    have BWa := hid hbo
    obtain ⟨k1, k2, k3, k4, k5, k6, -⟩ := own_slot hown
    have KBa := hid k1; have KFa := hid k3; have KCa := hid k4
    obtain ⟨lia, hli⟩ : ∃ x, l[i]? = some x := ⟨_, List.getElem?_eq_getElem (by rw [HN.out]; exact HI.out)⟩
    have HLIa := hid hli
    clear hown hbo k1 k2 k3 k4 k5 k6 hli
    have f1 := KFa.out i
    have c1 := KCa.out i _ (strs_get HLIa.out)
    go_wp2_with fail
    go_region
    have O1 := own_set (own_set OWa.out i (.string lia)) i (.string lia)
    rw [strs_set, strs_set] at O1
    have ES : (l.set i lia).set i lia = swB l ⟨#[]⟩ i i := by unfold swB; rw [List.getD_eq_getElem?_getD, HLIa.out]; rfl
    rw [ES] at O1
    have RNa := hid ((Row.of_owns O1).call (Below.refl _ _).drew)
    have BNa := hid (((BWa.out.setCell (p := ⟨ga, i, none⟩) KBa.out (.string lia)).setCell (p := ⟨ga, i, none⟩) KBa.out (.string lia)).drew)
    clear O1 ES f1 c1
    obtain ⟨wSa, hwS⟩ : ∃ q, ((w10.setCell ⟨ga, i, none⟩ (.string lia)).setCell ⟨ga, i, none⟩ (.string lia)).drew = q := ⟨_, rfl⟩
    rw [hwS] at RNa BNa ⊢
    clear hwS
    have d11 := hid (bnext d9.out BNa.out)
    go_wp2_with fail
    refine (PC3 _ _ RNa.out (HL.out.call (bnext y8.out d11.out))).out.mono ?_; rintro e w12 ⟨⟨u12, rfl, hu12⟩, hb12⟩
    have d12 := hid (bnext d11.out hb12)
    have b12 := hid (bnext BNa.out hb12)
    have A12 := hid (A9.out.call b12.out)
    have U12 := hid hu12
    obtain ⟨a12, c12, rfl, -, -, -⟩ := hu12.openS
    clear hu12 hb12
    go_wp2_with fail
    refine (PO2 _ _ (x8.out.call d12.out)).out.mono ?_; rintro e w13 ⟨⟨u13, rfl, hown⟩, hbo⟩
    rw [HXL.out] at hown
    obtain ⟨gb, capb, rfl⟩ : ∃ g c, u13 = .slice (some ⟨g, 0, none⟩) j c := by
     obtain ⟨m, hm⟩ : ∃ m, j = m + 1 := ⟨j - 1, by have := HI.out; omega⟩
     subst hm
     exact ownsRow_succ hown
    have OWb := hid hown
    have BWb := hid hbo
    obtain ⟨k1, k2, k3, k4, k5, k6, -⟩ := own_slot hown
    have KBb := hid k1; have KFb := hid k3; have KCb := hid k4
    obtain ⟨lib, hli⟩ : ∃ x, X[i]? = some x := ⟨_, List.getElem?_eq_getElem (by rw [HXL.out]; exact HI.out)⟩
    have HLIb := hid hli
    clear hown hbo k1 k2 k3 k4 k5 k6 hli
    have f1 := KFb.out i
    have c1 := KCb.out i _ (strs_get HLIb.out)
    go_wp2_with fail
    go_region
    have O1 := own_set (own_set OWb.out i (.string lib)) i (.string lib)
    rw [strs_set, strs_set] at O1
    have ES : (X.set i lib).set i lib = swB X ⟨#[]⟩ i i := by unfold swB; rw [List.getD_eq_getElem?_getD, HLIb.out]; rfl
    rw [ES] at O1
    have RNb := hid ((Row.of_owns O1).call (Below.refl _ _).drew)
    have BNb := hid (((BWb.out.setCell (p := ⟨gb, i, none⟩) KBb.out (.string lib)).setCell (p := ⟨gb, i, none⟩) KBb.out (.string lib)).drew)
    clear O1 ES f1 c1
    obtain ⟨wSb, hwS⟩ : ∃ q, ((w13.setCell ⟨gb, i, none⟩ (.string lib)).setCell ⟨gb, i, none⟩ (.string lib)).drew = q := ⟨_, rfl⟩
    rw [hwS] at RNb BNb ⊢
    clear hwS
    have d14 := hid (bnext d12.out BNb.out)
    have A14 := hid (A12.out.call BNb.out)
    have U14 := hid (U12.out.call BNb.out)
    have x14 := hid (x8.out.call d14.out)
    go_wp2_with fail
    refine (PSame _ _ _ A14.out x14.out).out.mono ?_; rintro e w15 ⟨rfl, hb15⟩
    have d15 := hid (bnext d14.out hb15)
    have U15 := hid (U14.out.call hb15)
    have R15 := hid (RNb.out.call hb15)
    clear hb15
    go_wp2_with fail
    refine (PSame2 _ _ _ U15.out R15.out).out.mono ?_; rintro e w16 ⟨rfl, hb16⟩
    have d16 := hid (bnext d15.out hb16)
    have RO := hid (HO'.out ▸ (HU.out.call (bnext y8.out d16.out)).cut HLO.out)
    clear hb16
    go_wp2_with fail
    refine (PSh _ _ RO.out).out.mono ?_; rintro e w17 ⟨⟨u17, rfl, hu17⟩, hb17⟩
    have d17 := hid (bnext d16.out hb17)
    have U17 := hid hu17
    obtain ⟨a17, c17, rfl, -, -, -⟩ := hu17.openS
    clear hu17 hb17
    go_wp2_with fail
    refine (PK _ _ _ _ (HV.out.call (bnext y8.out d17.out)) (x8.out.call d17.out) U17.out).out.mono ?_; rintro e w18 ⟨rfl, hb18⟩
    have d18 := hid (bnext d17.out hb18)
    clear hb18
    go_wp2_with fail
    go_ret
    exact ⟨rfl, bnext y8.out d18.out⟩
   ·have ne0 : (i = k) = False := by simp; omega
    have ne1 : (k = i) = False := by simp; omega
    clear hik
    refine (PO1 _ _ (HV.out.call (bnext y8.out d9.out))).out.mono ?_; rintro e w10 ⟨⟨u10, rfl, hown⟩, hbo⟩
    rw [HN.out] at hown
    obtain ⟨ga, capa, rfl⟩ : ∃ g c, u10 = .slice (some ⟨g, 0, none⟩) j c := by
     obtain ⟨m, hm⟩ : ∃ m, j = m + 1 := ⟨j - 1, by have := HI.out; omega⟩
     subst hm
     exact ownsRow_succ hown
    have OWa := hid hown
    have BWa := hid hbo
    obtain ⟨k1, k2, k3, k4, k5, k6, -⟩ := own_slot hown
    have KBa := hid k1; have KFa := hid k3; have KCa := hid k4
    obtain ⟨lia, hli⟩ : ∃ x, l[i]? = some x := ⟨_, List.getElem?_eq_getElem (by rw [HN.out]; exact HI.out)⟩
    have HLIa := hid hli
    obtain ⟨lka, hlk⟩ : ∃ x, l[k]? = some x := ⟨_, List.getElem?_eq_getElem (by rw [HN.out]; exact HK.out)⟩
    have HLKa := hid hlk
    clear hlk
    clear hown hbo k1 k2 k3 k4 k5 k6 hli
    have f1 := KFa.out i
    have f2 := KFa.out k
    have c1 := KCa.out i _ (strs_get HLIa.out)
    have c2 := KCa.out k _ (strs_get HLKa.out)
    go_wp2_with fail
    go_region
    have O1 := own_set (own_set OWa.out i (.string lka)) k (.string lia)
    rw [strs_set, strs_set] at O1
    have ES : (l.set i lka).set k lia = swB l ⟨#[]⟩ i k := by unfold swB; rw [List.getD_eq_getElem?_getD, List.getD_eq_getElem?_getD, HLIa.out, HLKa.out]; rfl
    rw [ES] at O1
    have RNa := hid ((Row.of_owns O1).call (Below.refl _ _).drew)
    have BNa := hid (((BWa.out.setCell (p := ⟨ga, i, none⟩) KBa.out (.string lka)).setCell (p := ⟨ga, k, none⟩) KBa.out (.string lia)).drew)
    clear O1 ES f1 c1 f2 c2
    obtain ⟨wSa, hwS⟩ : ∃ q, ((w10.setCell ⟨ga, i, none⟩ (.string lka)).setCell ⟨ga, k, none⟩ (.string lia)).drew = q := ⟨_, rfl⟩
    rw [hwS] at RNa BNa ⊢
    clear hwS
    have d11 := hid (bnext d9.out BNa.out)
    go_wp2_with fail
    refine (PC3 _ _ RNa.out (HL.out.call (bnext y8.out d11.out))).out.mono ?_; rintro e w12 ⟨⟨u12, rfl, hu12⟩, hb12⟩
    have d12 := hid (bnext d11.out hb12)
    have b12 := hid (bnext BNa.out hb12)
    have A12 := hid (A9.out.call b12.out)
    have U12 := hid hu12
    obtain ⟨a12, c12, rfl, -, -, -⟩ := hu12.openS
    clear hu12 hb12
    go_wp2_with fail
    refine (PO2 _ _ (x8.out.call d12.out)).out.mono ?_; rintro e w13 ⟨⟨u13, rfl, hown⟩, hbo⟩
    rw [HXL.out] at hown
    obtain ⟨gb, capb, rfl⟩ : ∃ g c, u13 = .slice (some ⟨g, 0, none⟩) j c := by
     obtain ⟨m, hm⟩ : ∃ m, j = m + 1 := ⟨j - 1, by have := HI.out; omega⟩
     subst hm
     exact ownsRow_succ hown
    have OWb := hid hown
    have BWb := hid hbo
    obtain ⟨k1, k2, k3, k4, k5, k6, -⟩ := own_slot hown
    have KBb := hid k1; have KFb := hid k3; have KCb := hid k4
    obtain ⟨lib, hli⟩ : ∃ x, X[i]? = some x := ⟨_, List.getElem?_eq_getElem (by rw [HXL.out]; exact HI.out)⟩
    have HLIb := hid hli
    obtain ⟨lkb, hlk⟩ : ∃ x, X[k]? = some x := ⟨_, List.getElem?_eq_getElem (by rw [HXL.out]; exact HK.out)⟩
    have HLKb := hid hlk
    clear hlk
    clear hown hbo k1 k2 k3 k4 k5 k6 hli
    have f1 := KFb.out i
    have f2 := KFb.out k
    have c1 := KCb.out i _ (strs_get HLIb.out)
    have c2 := KCb.out k _ (strs_get HLKb.out)
    go_wp2_with fail
    go_region
    have O1 := own_set (own_set OWb.out i (.string lkb)) k (.string lib)
    rw [strs_set, strs_set] at O1
    have ES : (X.set i lkb).set k lib = swB X ⟨#[]⟩ i k := by unfold swB; rw [List.getD_eq_getElem?_getD, List.getD_eq_getElem?_getD, HLIb.out, HLKb.out]; rfl
    rw [ES] at O1
    have RNb := hid ((Row.of_owns O1).call (Below.refl _ _).drew)
    have BNb := hid (((BWb.out.setCell (p := ⟨gb, i, none⟩) KBb.out (.string lkb)).setCell (p := ⟨gb, k, none⟩) KBb.out (.string lib)).drew)
    clear O1 ES f1 c1 f2 c2
    obtain ⟨wSb, hwS⟩ : ∃ q, ((w13.setCell ⟨gb, i, none⟩ (.string lkb)).setCell ⟨gb, k, none⟩ (.string lib)).drew = q := ⟨_, rfl⟩
    rw [hwS] at RNb BNb ⊢
    clear hwS
    have d14 := hid (bnext d12.out BNb.out)
    have A14 := hid (A12.out.call BNb.out)
    have U14 := hid (U12.out.call BNb.out)
    have x14 := hid (x8.out.call d14.out)
    go_wp2_with fail
    refine (PSame _ _ _ A14.out x14.out).out.mono ?_; rintro e w15 ⟨rfl, hb15⟩
    have d15 := hid (bnext d14.out hb15)
    have U15 := hid (U14.out.call hb15)
    have R15 := hid (RNb.out.call hb15)
    clear hb15
    go_wp2_with fail
    refine (PSame2 _ _ _ U15.out R15.out).out.mono ?_; rintro e w16 ⟨rfl, hb16⟩
    have d16 := hid (bnext d15.out hb16)
    have RO := hid (HO'.out ▸ (HU.out.call (bnext y8.out d16.out)).cut HLO.out)
    clear hb16
    go_wp2_with fail
    refine (PSh _ _ RO.out).out.mono ?_; rintro e w17 ⟨⟨u17, rfl, hu17⟩, hb17⟩
    have d17 := hid (bnext d16.out hb17)
    have U17 := hid hu17
    obtain ⟨a17, c17, rfl, -, -, -⟩ := hu17.openS
    clear hu17 hb17
    go_wp2_with fail
    refine (PK _ _ _ _ (HV.out.call (bnext y8.out d17.out)) (x8.out.call d17.out) U17.out).out.mono ?_; rintro e w18 ⟨rfl, hb18⟩
    have d18 := hid (bnext d17.out hb18)
    clear hb18
    go_wp2_with fail
    go_ret
    exact ⟨rfl, bnext y8.out d18.out⟩
theorem w_SmoothSimplex (w : World) (v u : Value) (l o : List ByteArray) (t : ByteArray) (p q : Int) (hv : Row w v (strs l)) (hu : Row w u (strs o)) (z1 : ∀ s ∈ l, s.size ≤ 9223372036854775807) (z2 : ∀ s ∈ o, s.size ≤ 9223372036854775807) (zt : t.size ≤ 9223372036854775807) (hp1 : -9223372036854775808 ≤ p) (hp2 : p ≤ 9223372036854775807) (hq1 : -9223372036854775808 ≤ q) (hq2 : q ≤ 9223372036854775807) (hL : Lay w) :
 Calls Tryz.prog 3 #[v, u, .string t, .int .i64 p, .int .i64 q] w fun e w' => e = .returned (.bool true) ∧ Below w.heap.size w w' := by
 by_cases hall : validB l = true ∧ validB o = true ∧ ¬ o.length < l.length ∧ validB [t] = true ∧ lstB t0B t = true
 ·obtain ⟨h1, h2, h3, h4, h7⟩ := hall
  obtain ⟨h5, h6⟩ := valid_one h4
  exact smx_walk w v u l o t p q hv hu hL (VL.of h1) (VL.of h2) (by omega) h5 h6 h7 h1 h2 h4 hp1 hp2 hq1 hq2
 ·have PL := hid (w_lives29 w hL)
  have PV1 := fun V x hx => hid (w_valid V x l hx z1)
  have PV2 := fun V x hx => hid (w_valid V x o hx z2)
  have PV3 := fun V x hx => hid (w_valid V x [t] hx (fun s hs => by simp at hs; subst hs; exact zt))
  have PZ := fun V (h : validB [t] = true) => hid (w_least V t0B t (by show (1 : Nat) ≤ 1000000; omega) (by have := (valid_one h).2; omega))
  obtain ⟨BZ, hBZ⟩ : ∃ B, lstB t0B t = B := ⟨_, rfl⟩
  rw [hBZ] at PZ hall
  have HV := hid hv
  have HU := hid hu
  obtain ⟨a1, c1, rfl, q1, q2, -⟩ := hv.openS
  obtain ⟨a2, c2, rfl, p1, p2, -⟩ := hu.openS
  obtain ⟨V1, hV1⟩ : ∃ V, validB l = V := ⟨_, rfl⟩
  obtain ⟨V2, hV2⟩ : ∃ V, validB o = V := ⟨_, rfl⟩
  obtain ⟨V3, hV3⟩ : ∃ V, validB [t] = V := ⟨_, rfl⟩
  rw [hV1] at PV1 hall
  rw [hV2] at PV2 hall
  rw [hV3] at PV3 hall PZ
  obtain ⟨n, hn⟩ : ∃ M, l.length = M := ⟨_, rfl⟩
  obtain ⟨M, hM⟩ : ∃ M, o.length = M := ⟨_, rfl⟩
  rw [hn] at q1 HV hall ⊢
  rw [hM] at p1 HU hall ⊢
  clear hv hu hV1 hV2 hV3 hBZ hn hM z1 z2 zt hL q1 q2 p1 p2 hp1 hp2 hq1 hq2
  cases V1
  ·clear hall
   go_enter Tryz.func3, Tryz.ntmps3
   go_wp2_with fail
   refine PL.out.mono ?_; rintro e w1 ⟨rfl, hb1⟩
   have y1 := hid hb1; clear hb1 PL
   go_wp2_with fail
   refine (PV1 _ _ (HV.out.call y1.out)).out.mono ?_; rintro e w2 ⟨rfl, hb2⟩
   have y2 := hid (bnext y1.out hb2); clear hb2
   go_wp2_with fail
   go_ret
   exact ⟨rfl, y2.out⟩
  ·cases V2
   ·clear hall
    go_enter Tryz.func3, Tryz.ntmps3
    go_wp2_with fail
    refine PL.out.mono ?_; rintro e w1 ⟨rfl, hb1⟩
    have y1 := hid hb1; clear hb1 PL
    go_wp2_with fail
    refine (PV1 _ _ (HV.out.call y1.out)).out.mono ?_; rintro e w2 ⟨rfl, hb2⟩
    have y2 := hid (bnext y1.out hb2); clear hb2
    go_wp2_with fail
    refine (PV2 _ _ (HU.out.call y2.out)).out.mono ?_; rintro e w3 ⟨rfl, hb3⟩
    have y3 := hid (bnext y2.out hb3); clear hb3
    go_wp2_with fail
    go_ret
    exact ⟨rfl, y3.out⟩
   ·by_cases hlt : M < n
    ·have t2 : decide ((M : Int) < (n : Int)) = true := decide_eq_true (by omega)
     have t3 : (M : Int) < (n : Int) := by omega
     clear hall
     go_enter Tryz.func3, Tryz.ntmps3
     go_wp2_with fail
     refine PL.out.mono ?_; rintro e w1 ⟨rfl, hb1⟩
     have y1 := hid hb1; clear hb1 PL
     go_wp2_with fail
     refine (PV1 _ _ (HV.out.call y1.out)).out.mono ?_; rintro e w2 ⟨rfl, hb2⟩
     have y2 := hid (bnext y1.out hb2); clear hb2
     go_wp2_with fail
     refine (PV2 _ _ (HU.out.call y2.out)).out.mono ?_; rintro e w3 ⟨rfl, hb3⟩
     have y3 := hid (bnext y2.out hb3); clear hb3
     go_wp2_with fail
     go_ret
     exact ⟨rfl, y3.out⟩
    ·cases V3
     ·clear hall
      have t2 : decide ((M : Int) < (n : Int)) = false := decide_eq_false (by omega)
      have t3 : (n : Int) ≤ (M : Int) := by omega
      have t4 : n ≤ M := by omega
      have t5 : decide (M < n) = false := decide_eq_false (by omega)
      clear hlt
      go_enter Tryz.func3, Tryz.ntmps3
      go_wp2_with fail
      refine PL.out.mono ?_; rintro e w1 ⟨rfl, hb1⟩
      have y1 := hid hb1; clear hb1 PL
      go_wp2_with fail
      refine (PV1 _ _ (HV.out.call y1.out)).out.mono ?_; rintro e w2 ⟨rfl, hb2⟩
      have y2 := hid (bnext y1.out hb2); clear hb2
      go_wp2_with fail
      refine (PV2 _ _ (HU.out.call y2.out)).out.mono ?_; rintro e w3 ⟨rfl, hb3⟩
      have y3 := hid (bnext y2.out hb3); clear hb3
      have A3 := hid ((Below.refl w3.heap.size w3).alloc (Nat.le_refl _) (.cells #[.string t] 23))
      have R3 := hid (rowN_lit w3 [t] _ 1 w3.heap.size rfl rfl rfl (by omega))
      go_wp2_with fail
      refine (PV3 _ _ R3.out).out.mono ?_; rintro e w4 ⟨rfl, hb4⟩
      have y4 := hid (bnext y3.out (bnext A3.out hb4)); clear hb4 A3 R3
      go_wp2_with fail
      go_ret
      exact ⟨rfl, y4.out⟩
     ·obtain rfl : BZ = false := by
       cases BZ
       ·rfl
       ·exact absurd ⟨rfl, rfl, hlt, rfl, rfl⟩ hall
      clear hall
      have t2 : decide ((M : Int) < (n : Int)) = false := decide_eq_false (by omega)
      have t3 : (n : Int) ≤ (M : Int) := by omega
      have t4 : n ≤ M := by omega
      have t5 : decide (M < n) = false := decide_eq_false (by omega)
      clear hlt
      go_enter Tryz.func3, Tryz.ntmps3
      go_wp2_with fail
      refine PL.out.mono ?_; rintro e w1 ⟨rfl, hb1⟩
      have y1 := hid hb1; clear hb1 PL
      go_wp2_with fail
      refine (PV1 _ _ (HV.out.call y1.out)).out.mono ?_; rintro e w2 ⟨rfl, hb2⟩
      have y2 := hid (bnext y1.out hb2); clear hb2
      go_wp2_with fail
      refine (PV2 _ _ (HU.out.call y2.out)).out.mono ?_; rintro e w3 ⟨rfl, hb3⟩
      have y3 := hid (bnext y2.out hb3); clear hb3
      have A3 := hid ((Below.refl w3.heap.size w3).alloc (Nat.le_refl _) (.cells #[.string t] 23))
      have R3 := hid (rowN_lit w3 [t] _ 1 w3.heap.size rfl rfl rfl (by omega))
      go_wp2_with fail
      refine (PV3 _ _ R3.out).out.mono ?_; rintro e w4 ⟨rfl, hb4⟩
      have y4 := hid (bnext y3.out (bnext A3.out hb4)); clear hb4 A3 R3
      go_wp2_with fail
      refine (PZ _ (by trivial)).out.mono ?_; rintro e w5 ⟨rfl, hb5⟩
      have y5 := hid (bnext y4.out hb5); clear hb5
      go_wp2_with fail
      go_ret
      exact ⟨rfl, y5.out⟩
end Go.Proofs.YtlimaehdmcnjaaaGreatDoor
