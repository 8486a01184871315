/- Texts that the proof rests on, merged: Sa6, Slt, Slb, Fd9, Fd10, Sa5, Sa4, Sf0, Slk, Sa2, Fd12, Shi, Sh9, KoI, Sfi. -/
import Derived.Test.YtlmnpocifldpmaaGreatDoorKd9
import Derived.Maps.AppendAt
import Derived.IntWalk
import Derived.RangeFuncBox
import Derived.Shelf.SlicesE.Clone
import Derived.Shelf.SlGeneric
import Derived.Ground.SlgnProg
import Derived.Ground.NamesProg
import Derived.Test.YtlmnpocifldpmaaGreatDoorProg
set_option linter.unusedVariables false
set_option linter.unusedSimpArgs false
set_option linter.unusedSectionVars false
set_option maxRecDepth 100000
set_option maxHeartbeats 8000000
namespace Go.Proofs.YtlmnpocifldpmaaGreatDoor
open Go.RowKit
open Go.Shelf
open Go.Lib (decDigits nDigits)
def cpC (y : Int × ByteArray) : List Value := [.int .i64 y.1, .string y.2]
def cpF (L : List (Int × ByteArray)) : List Value := L.flatMap cpC
theorem cpF_length (L : List (Int × ByteArray)) : (cpF L).length = L.length * 2 := by
 unfold cpF
 induction L with
 | nil => rfl
 | cons p r ih => rw [List.flatMap_cons, List.length_append, ih, List.length_cons]; simp [cpC]; omega
theorem cpF_snoc (L : List (Int × ByteArray)) (y : Int × ByteArray) : cpF (L ++ [y]) = cpF L ++ cpC y := by simp [cpF]
theorem cpF_get {L : List (Int × ByteArray)} : ∀ {i : Nat} {y : Int × ByteArray}, L[i]? = some y → (cpF L)[i * 2]? = some (.int .i64 y.1) ∧ (cpF L)[i * 2 + 1]? = some (.string y.2) := by
 induction L with
 | nil => intro i p h; simp at h
 | cons q r ih =>
  intro i p h
  have hl : (cpC q).length = 2 := rfl
  cases i with
  | zero => simp at h; subst h; exact ⟨rfl, rfl⟩
  | succ i =>
   rw [List.getElem?_cons_succ] at h
   obtain ⟨h1, h2⟩ := ih h
   have e : cpF (q :: r) = cpC q ++ cpF r := rfl
   rw [e]
   refine ⟨?_, ?_⟩
   ·rw [List.getElem?_append_right (by omega), hl, show (i + 1) * 2 - 2 = i * 2 by omega]; exact h1
   ·rw [List.getElem?_append_right (by omega), hl, show (i + 1) * 2 + 1 - 2 = i * 2 + 1 by omega]; exact h2
theorem own_weakS {W : World} {base base' : Nat} {e : TypeId} {k : Nat} {v : Value} {n : Nat} {xs : List Value} (h : W.ownsRow base e k v n xs) (hb : base' ≤ base) : W.ownsRow base' e k v n xs := by
 obtain ⟨h1, h2⟩ := h
 rcases h2 with h2 | ⟨g, cap, cur, a1, a2, a3⟩
 ·exact ⟨h1, .inl h2⟩
 ·exact ⟨h1, .inr ⟨g, cap, cur, a1, Nat.le_trans hb a2, a3⟩⟩
structure PRow (w : World) (v : Value) (l : List (Int × ByteArray)) : Prop where
 ex : ∃ a c, v = .slice a l.length c ∧ l.length ≤ c ∧ c ≤ 9223372036854775807 ∧ ∀ (i : Nat) (x : Int × ByteArray), l[i]? = some x → ∃ g o, a = some ⟨g, o, none⟩ ∧ g < w.heap.size ∧ w.cell? ⟨g, o + i * 2, none⟩ = some (.int .i64 x.1) ∧ w.cell? ⟨g, o + i * 2 + 1, none⟩ = some (.string x.2)
theorem PRow.of_owns {w : World} {base n : Nat} {e : TypeId} {v : Value} {L : List (Int × ByteArray)} (h : w.ownsRow base e 2 v n (cpF L)) : PRow w v L := by
 have hn : n = L.length := by have := h.1; rw [cpF_length] at this; omega
 subst hn
 rcases h.2 with ⟨rfl, h0⟩ | ⟨g, cap, cur, rfl, hb, hg, k1, k2, k3, k4⟩
 ·have hl : L = [] := List.length_eq_zero_iff.1 (by omega)
  subst hl
  exact ⟨none, 0, rfl, Nat.le_refl _, by omega, fun i x hx => by simp at hx⟩
 ·obtain ⟨o1, o2, o3, o4, o5, o6⟩ := own_slotK h
  refine ⟨some ⟨g, 0, none⟩, cap, rfl, o6, o5, fun i x hx => ?_⟩
  obtain ⟨f1, f2⟩ := cpF_get hx
  refine ⟨g, 0, rfl, o2, ?_, ?_⟩
  ·rw [Nat.zero_add]; exact o4 _ _ f1
  ·rw [Nat.zero_add]; exact o4 _ _ f2
theorem info_sch : (Tryz.prog.info? 68).map (fun i => (i.zero, i.size, i.bytes)) = some (some (.agg #[.int .i64 0, .string ⟨#[]⟩]), 2, 24) := by kernel_rfl
theorem news_allS {W : World} {g : Nat} {cs : Array Value} {t : TypeId} (h : Blk W g cs t) : ∀ j u, cs.toList[j]? = some u → W.cell? ((⟨g, 0, none⟩ : Addr).add j) = some u := fun j u hj => by
 rw [Addr.add_lit, Nat.zero_add, h.cell]
 simpa using hj
noncomputable def chT (g : Int → Nat) (n : Nat) (d : List (ByteArray × ByteArray)) (i : Nat) : List (Int × ByteArray) := (chS (d.take i)).map fun v => (v, dyB (g v) n)
theorem chT_late {g : Int → Nat} {n : Nat} {d : List (ByteArray × ByteArray)} {i : Nat} {p : ByteArray × ByteArray} (h : d[i]? = some p) (hp : kz p.1 = none) : chT g n d (i + 1) = chT g n d i := by unfold chT; rw [chS_late h hp]
theorem chT_num {g : Int → Nat} {n : Nat} {d : List (ByteArray × ByteArray)} {i : Nat} {p : ByteArray × ByteArray} {v : Int} (h : d[i]? = some p) (hp : kz p.1 = some v) : chT g n d (i + 1) = chT g n d i ++ [(v, dyB (g v) n)] := by unfold chT; rw [chS_num h hp, List.map_append]; rfl
theorem chT_length (g : Int → Nat) (n : Nat) (d : List (ByteArray × ByteArray)) (i : Nat) : (chT g n d i).length ≤ d.length := by
 unfold chT
 rw [List.length_map]
 refine Nat.le_trans (chS_length _) ?_
 rw [List.length_take]
 omega
noncomputable def chU (g : Int → Nat) (n : Nat) (d : List (ByteArray × ByteArray)) (i : Nat) : ByteArray := dyB (sV g (chS (d.take i))) n
theorem sp_chances (w : World) (a : ByteArray) (n : Nat) (ha : a.size ≤ 100000) (hg0 : gPE a = 0) (hn : n ≤ 32) (hL : LayB w) :
 Calls Tryz.prog 32 #[.string a, .int .i64 (n : Nat)] w fun e w' => (∃ u, e = .returned (.tuple #[u, .string (dyB (zS n (gV (bN (cW a)) (bN (qD a)) true n)) n)]) ∧ w'.ownsRow w.heap.size 68 2 u ((chS (glR a (n : Nat) true)).map fun v => (v, dyB (gV (bN (cW a)) (bN (qD a)) true n v) n)).length (cpF ((chS (glR a (n : Nat) true)).map fun v => (v, dyB (gV (bN (cW a)) (bN (qD a)) true n v) n)))) ∧ Below w.heap.size w w' := by
 obtain ⟨i0, hi, hz0, hz1, hz2⟩ := info_parts info_sch
 have HTL := hid (g_TwoLaw w a (n : Nat) ha hL.l)
 have hgl0 : glE a (n : Nat) 32 = 0 := by unfold glE; rw [if_neg (by simpa using hg0), if_neg (by omega)]
 have hglR : glR a (n : Nat) true = sortM (glP (gV (bN (cW a)) (bN (qD a)) true n) (2 ^ n) n (gL (bN (cW a)) (bN (qD a)) true n)) := by unfold glR; rw [if_pos hgl0, Int.toNat_natCast]
 have hz : zS n (gV (bN (cW a)) (bN (qD a)) true n) ≤ 2 ^ n := by have := gV_all (gPE_ok hg0).2 true n; omega
 rw [hgl0] at HTL
 rw [hglR] at HTL ⊢
 obtain ⟨g, hgg⟩ : ∃ g, gV (bN (cW a)) (bN (qD a)) true n = g := ⟨_, rfl⟩
 obtain ⟨r, hrr⟩ : ∃ r, gL (bN (cW a)) (bN (qD a)) true n = r := ⟨_, rfl⟩
 rw [hgg, hrr] at HTL ⊢
 rw [hgg] at hz
 have hM : ∀ p ∈ sortM (glP g (2 ^ n) n r), (∃ v : Int, -(n : Int) ≤ v ∧ v ≤ n ∧ p.1 = zB v ∧ kz p.1 = some v ∧ p.2 = dyB (g v) n) ∨ (p.1 = lateB ∧ kz p.1 = none) := fun p hp => chS_mass hp
 have hR := runs_glP g (2 ^ n) n r
 have hlen : (sortM (glP g (2 ^ n) n r)).length ≤ 100 := by
  rw [sortM_length]
  have : (glP g (2 ^ n) n r).length ≤ 2 * n + 2 := by
   unfold glP glM
   rw [List.length_append]
   have h := List.length_filterMap_le (fun (j : Nat) => if g ((j : Int) - n) = 0 then none else some (zB ((j : Int) - n), shB (g ((j : Int) - n)) (2 ^ n))) (List.range (2 * n + 1))
   rw [List.length_range] at h
   have h2 : (if r = 0 then ([] : List (ByteArray × ByteArray)) else [(lateB, shB r (2 ^ n))]).length ≤ 1 := by split <;> simp
   omega
  omega
 obtain ⟨d, hd⟩ : ∃ d, sortM (glP g (2 ^ n) n r) = d := ⟨_, rfl⟩
 rw [hd] at HTL hM hR hlen ⊢
 have hle : ∀ i, sV g (chS (d.take i)) ≤ 2 ^ n := fun i => by
  have h1 : chS d = chS (d.take i) ++ chS (d.drop i) := by unfold chS; rw [← List.filterMap_append, List.take_append_drop]
  have h2 := hR g (fun v h => h)
  rw [h1] at h2
  unfold sV at h2 ⊢
  rw [List.map_append, List.sum_append] at h2
  omega
 have HLE := hid hle
 have HEND := hid (show sV g (chS d) = zS n g from hR g fun v h => h)
 have HM := hid hM; have HLN := hid hlen; have HN := hid hn; have HL := hid hL
 obtain ⟨L, hLL⟩ : ∃ L, d.length = L := ⟨_, rfl⟩
 have HLL := hid hLL
 clear ha hg0 hL hgl0 hglR hz hgg hrr hM hR hlen hd hle hn hLL
 go_enter Tryz.func32, Tryz.ntmps32
 go_wp2_with fail
 refine HTL.out.mono ?_; rintro e w1 ⟨⟨u1, rfl, hu1⟩, hb1⟩
 have y1 := hid hb1; have U1 := hid hu1
 obtain ⟨ad, cd, rfl, c1, c2, c3⟩ := hu1.ex
 have H3 := hid c3
 rw [HLL.out] at c1 U1 ⊢
 clear hb1 hu1 c3 HTL
 go_wp2_with fail
 go_loopw [8, 9, 11, 12, 13, 22] (fun s8 s9 s11 s12 s13 s22 wr => ∃ i : Nat, s22 = .int .i64 (i : Nat) ∧ i ≤ L ∧ s9 = .string (chU g n d i) ∧ Hid (wr.ownsRow w1.heap.size 68 2 s8 (chT g n d i).length (cpF (chT g n d i))) ∧ Hid (Below w1.heap.size w1 wr)) (fun s8 s9 s11 s12 s13 s22 wr => L - (intOf s22).toNat)
 case atStart => exact ⟨0, rfl, Nat.zero_le _, by unfold chU; rw [List.take_zero]; exact congrArg _ (dy_zero n).symm, World.ownsRow_nil _ _ _ _, Below.refl _ _⟩
 case round =>
  obtain ⟨i, rfl, hi, rfl, hO, hB⟩ := hrel
  have hl100 := HLN.out
  by_cases hlt : i < L
  ·obtain ⟨q, hq⟩ : ∃ q, d[i]? = some q := ⟨_, List.getElem?_eq_getElem (by rw [HLL.out]; exact hlt)⟩
   obtain ⟨gd, od, rfl, hgd, m1, m2⟩ := H3.out i q hq
   have r1 := (hB.out.cell (p := ⟨gd, od + 2 * i, none⟩) hgd).trans m1
   have r2 := (hB.out.cell (p := ⟨gd, od + 2 * i + 1, none⟩) hgd).trans m2
   rw [Nat.mul_comm 2] at r1 r2
   have f1 : (0 : Int) ≤ (i : Int) := by omega
   have f2 : (i : Int) < (L : Int) := by omega
   have wi : IntKind.i64.wrap ((i : Int) + 1) = ((i + 1 : Nat) : Int) := by rw [HLL.out] at hl100; rw [IntWalk.i64_in _ ⟨by omega, by omega⟩]; omega
   have HLT := hid hlt
   have BW := hid (bnext y1.out hB.out)
   obtain ⟨qk, qv⟩ := q
   dsimp only at r1 r2
   have AM := hid ((Below.refl wr.heap.size wr).alloc (Nat.le_refl _) (.cells #[.string qk, .string qv] 39))
   have XM := hid (Blk.new wr #[.string qk, .string qv] 39)
   have g0 := XM.out.cell 0
   have g1 := XM.out.cell 1
   simp at g0 g1
   rcases HM.out _ (List.mem_of_getElem? hq) with ⟨v, v1, v2, v3, v4, v5⟩ | ⟨v3, v4⟩
   ·dsimp only at v3 v4 v5
    have HT := hid (chT_num (g := g) (n := n) hq v4)
    have hU : sV g (chS (d.take (i + 1))) = sV g (chS (d.take i)) + g v := by
     rw [chS_num hq v4]
     unfold sV
     rw [List.map_append, List.sum_append]; simp
    have hle2 := HLE.out (i + 1)
    have HU : Hid (op2B (· + ·) (chU g n d i) qv = chU g n d (i + 1)) := by
     show _ = _
     unfold chU
     rw [v5, hU, dy_add (by omega) (by have := HN.out; omega)]
    have HP := fun V hV => hid (sp_plus V (chU g n d i) qv (Nat.le_trans (dyB_size (HLE.out i) (by have := HN.out; omega)) (by omega)) (by
     have : g v ≤ 2 ^ n := by omega
     rw [v5]; exact Nat.le_trans (dyB_size this (by have := HN.out; omega)) (by omega)) hV)
    rw [HU.out] at HP
    have PA := fun V => hid (b_AtoiZ V v (by have := HN.out; omega) (by have := HN.out; omega))
    rw [← v3] at PA
    have HQV := hid v5
    have HLB := hid (show (chT g n d i).length ≤ 100 from Nat.le_trans (chT_length g n d i) HLN.out)
    obtain ⟨S0, hS0⟩ : ∃ s, chU g n d i = s := ⟨_, rfl⟩
    obtain ⟨S1, hS1⟩ : ∃ s, chU g n d (i + 1) = s := ⟨_, rfl⟩
    rw [hS0, hS1] at HP
    rw [hS0]
    have HS1 := hid hS1
    clear hq hgd m1 m2 hlt hi hl100 v1 v2 v3 v4 v5 hU hle2 HU hS0 hS1
    go_wp2_with fail
    refine (PA _).out.mono ?_; rintro e w2 ⟨rfl, hb2⟩
    have x2 := hid (bnext AM.out hb2)
    have XM2 := hid (XM.out.call hb2)
    have KK : Hid (∀ V, Below w2.heap.size w2 V → V.cell? ⟨wr.heap.size, 1, none⟩ = some (.string qv)) := fun V hV => (XM2.out.call hV).cell 1
    have lt0 : Hid (∀ k, u8.ownBlock = some k → k < wr.heap.size) := fun k h => (hO.out.lt k h).2
    have HO2 := hid (owns_call hO.out x2.out)
    have HB2 := hid (bnext hB.out x2.out)
    clear hb2 g0 g1 r1 r2
    go_wp2_with fail
    refine held_plain [0, 1, 2, 3, 4, 7, 8, 9] 5 (fun V => V.cell? ⟨wr.heap.size, 1, none⟩ = some (.string qv)) (by kernel_rfl) (by kernel_rfl) (by kernel_rfl) (by kernel_rfl) (KK.out _ (Below.refl _ _).drew) ?_
    iterate 8
     refine ⟨_, rfl, ?_⟩
     apply Exists.intro
     refine ⟨.inl ⟨by rfl, ?_⟩, ?_⟩
     ·(intro W' hW'; obtain q9 := hW'; go_simp; try (with_reducible rfl))
     (dsimp only [Act.put]; try simp only [List.setIfInBounds_toArray, List.set_cons_zero, List.set_cons_succ])
    refine held_one (i := 5) (by kernel_rfl) (by rfl) (by rfl) ?_
    go_wp2_with fail
    have z1 := hid (((Below.refl w2.heap.size w2).alloc (Nat.le_refl _) (.cells #[.int .i64 v, .string qv] 68)).drew)
    have b1 := hid (show Blk (w2.alloc (.cells #[.int .i64 v, .string qv] 68)).drew w2.heap.size #[.int .i64 v, .string qv] 68 from (Blk.new w2 _ _).drew)
    have XM3 := hid (XM2.out.call z1.out)
    have o2 := hid (owns_call HO2.out z1.out)
    have h2 := hid (bnext HB2.out z1.out)
    obtain ⟨w2d, hw2d⟩ : ∃ W, (w2.alloc (.cells #[.int .i64 v, .string qv] 68)).drew = W := ⟨_, rfl⟩
    have hk1 := KK.out _ z1.out
    rw [hw2d] at z1 b1 XM3 o2 h2 hk1 ⊢
    clear hw2d
    refine ⟨hk1, ?_⟩
    clear hk1
    refine held_one (i := 6) (by kernel_rfl) (by rfl) (by rfl) ?_
    refine wpList_append_own_at _ rfl _ _ 62 rfl w1.heap.size 68 i0 (.agg #[.int .i64 0, .string ⟨#[]⟩]) 2 24 Tryz.underlying62 hi hz0 hz1 hz2 rfl (by decide) u8 (chT g n d i).length (cpF (chT g n d i)) rfl o2.out ⟨w2.heap.size, 0, none⟩ 1 1 [.int .i64 v, .string qv] rfl rfl (news_allS b1.out) (by simp [Value.oneCell']) (by have := HLB.out; unfold maxLen; omega) (by have := HLB.out; omega) h2.out.size ?_
    intro v2 w3 hown hgrow _ hat
    have O9 := hid hown; have B9 := hid (owned_below o2.out h2.out hgrow)
    have c9 := (XM3.out.grown hgrow (fun e => by have := lt0.out _ e; omega)).cell 1
    simp at c9
    clear hown hgrow hat
    go_wp2_with fail
    refine ⟨c9, ?_⟩
    have C9 := hid c9
    refine held_one (i := 10) (by kernel_rfl) (by rfl) (by rfl) ?_
    clear c9
    go_wp2_with fail
    refine (HP _ (HL.out.call (bnext y1.out B9.out)).l).out.mono ?_; rintro e w4 ⟨rfl, hb⟩
    have O10 := hid (owns_call O9.out hb); have B10 := hid (bnext B9.out hb)
    have c10 := (hb.cell (cell_lt C9.out)).trans C9.out
    clear hb
    go_wp2_with fail
    refine ⟨c10, ?_⟩
    refine held_more (is := [11, 12]) (g := 0) (by kernel_rfl) rfl c10 (by kernel_rfl) ?_
    iterate 2
     refine ⟨_, rfl, ?_⟩
     apply Exists.intro
     refine ⟨.inl ⟨by rfl, ?_⟩, ?_⟩
     ·(intro W' hW'; obtain q9 := hW'; go_simp; try (with_reducible rfl))
     (dsimp only [Act.put]; try simp only [List.setIfInBounds_toArray, List.set_cons_zero, List.set_cons_succ])
    refine wpAnyH_done (by kernel_rfl) ?_ _
    simp only [Only]
    go_wp2_with fail
    go_roundw
    case rel => exact ⟨i + 1, by go_num, by have := HLT.out; omega, by rw [HS1.out], by rw [HT.out, cpF_snoc, List.length_append, ← HQV.out]; exact O10.out, B10⟩
    case measure => simp [intOf] <;> (have := HLT.out; omega)
   ·dsimp only at v3 v4
    subst v3
    have HT := hid (chT_late (g := g) (n := n) hq v4)
    have HU : Hid (chU g n d (i + 1) = chU g n d i) := by show _ = _; unfold chU; rw [chS_late hq v4]
    have PA := fun V hV => hid (b_AtoiL V hV)
    clear hq hgd m1 m2 hlt hi hl100 v4
    obtain ⟨lt, hlt⟩ : ∃ s, lateB = s := ⟨_, rfl⟩
    rw [hlt] at PA r1 AM XM
    go_wp2_with fail
    refine (PA _ (HL.out.call (bnext BW.out AM.out)).s).out.mono ?_; rintro e w2 ⟨⟨te, pe, rfl⟩, hb2⟩
    have x2 := hid (bnext AM.out hb2)
    clear hb2 g0 g1 r1 r2
    go_wp2_with fail
    go_roundw
    case rel => exact ⟨i + 1, by go_num, by have := HLT.out; omega, by rw [HU.out], by rw [HT.out]; exact hO.out.kept (below_grown x2.out none) (by cases hv8 : Value.ownBlock _ <;> simp), bnext hB.out x2.out⟩
    case measure => simp [intOf] <;> (have := HLT.out; omega)
  ·obtain rfl : i = L := by omega
   have hT : d.take i = d := List.take_of_length_le (by rw [HLL.out]; exact Nat.le_refl _)
   have HO := hid (own_weakS hO.out y1.out.size)
   have hcU : chU g n d i = dyB (zS n g) n := by unfold chU; rw [hT, HEND.out]
   have hcT : chT g n d i = (chS d).map fun v => (v, dyB (g v) n) := by unfold chT; rw [hT]
   rw [hcU]
   rw [hcT] at HO
   have BW := hid (bnext y1.out hB.out)
   clear hlt hi hl100 hT hcU hcT
   go_wp2_with fail
   go_ret2
   exact ⟨⟨_, rfl, HO.out⟩, BW.out⟩
structure SqT (gA gC : Int → Nat) (n : Nat) (thr : Int) (c kA : List Int) (SA SC LT : ByteArray) (M : Int → ByteArray) (P D1 D2 H : Int → Nat → ByteArray) (F : Nat → Nat → ByteArray) (AF : Nat → ByteArray) (Z0 : ByteArray) : Prop where
 less : ∀ (V : World) x i, i < c.length → Lay V → Calls Tryz.prog 37 #[.string SC, .string (M (thr + x - c.getD i 0))] V fun e w' => e = .returned (.string (D1 x i)) ∧ Below V.heap.size V w'
 times1 : ∀ (V : World) x i, i < c.length → Lay V → Calls Tryz.prog 35 #[.string (P x i), .string (D1 x i)] V fun e w' => e = .returned (.string (D2 x i)) ∧ Below V.heap.size V w'
 times2 : ∀ (V : World) x i, i < c.length → Lay V → Calls Tryz.prog 35 #[.string (D2 x i), .string (AF (c.length - 1 - i))] V fun e w' => e = .returned (.string (H x i)) ∧ Below V.heap.size V w'
 plus : ∀ (V : World) x i j, i < c.length → kA[j]? = some x → Lay V → Calls Tryz.prog 34 #[.string (F i j), .string (H x i)] V fun e w' => e = .returned (.string (F i (j + 1))) ∧ Below V.heap.size V w'
 next : ∀ (V : World) x i, i < c.length → Lay V → Calls Tryz.prog 35 #[.string (P x i), .string (M (thr + x - c.getD i 0))] V fun e w' => e = .returned (.string (P x (i + 1))) ∧ Below V.heap.size V w'
 none : ∀ (V : World) x j, kA[j]? = some x → Lay V → Calls Tryz.prog 34 #[.string (F c.length j), .string (P x c.length)] V fun e w' => e = .returned (.string (F c.length (j + 1))) ∧ Below V.heap.size V w'
 after : ∀ (V : World) i, i < c.length → Lay V → Calls Tryz.prog 35 #[.string (AF i), .string SC] V fun e w' => e = .returned (.string (AF (i + 1))) ∧ Below V.heap.size V w'
 last1 : ∀ (V : World), Lay V → Calls Tryz.prog 35 #[.string SA, .string (AF c.length)] V fun e w' => e = .returned (.string Z0) ∧ Below V.heap.size V w'
 last2 : ∀ (V : World), Lay V → Calls Tryz.prog 37 #[.string ⟨#[49]⟩, .string Z0] V fun e w' => e = .returned (.string LT) ∧ Below V.heap.size V w'
 start : ∀ x, P x 0 = dyB (gA x) n
 zero : ∀ i, F i 0 = ⟨#[48]⟩
 one : AF 0 = ⟨#[49]⟩
 fin : ∀ i, i ≤ c.length → F i kA.length = dyB (sqT gA gC n thr c i) (n * (c.length + 1))
 late : LT = dyB (sqL gA gC n c.length) (n * (c.length + 1))
theorem sq_texts {gA gC : Int → Nat} {n : Nat} {thr : Int} {c kA : List Int} (hA : zS n gA ≤ 2 ^ n) (hC : zS n gC ≤ 2 ^ n) (hx : ∀ x, gA x ≤ 2 ^ n) (rA : Runs gA n kA) (hm : n * (c.length + 1) ≤ 1000) :
 SqT gA gC n thr c kA (dyB (zS n gA) n) (dyB (zS n gC) n) (dyB (sqL gA gC n c.length) (n * (c.length + 1))) (fun m => dyB (blw gC n m) n) (fun x i => dyB (sqP gA gC n thr x c i) (n * (i + 1)))
  (fun x i => op2B (· - ·) (dyB (zS n gC) n) (dyB (blw gC n (thr + x - c.getD i 0)) n)) (fun x i => op2B (· * ·) (dyB (sqP gA gC n thr x c i) (n * (i + 1))) (op2B (· - ·) (dyB (zS n gC) n) (dyB (blw gC n (thr + x - c.getD i 0)) n)))
  (fun x i => dyB (gA x * sqF gC n (thr + x) i 0 c) (n * (c.length + 1))) (fun i j => dyB (sqS gA gC n thr c kA i j) (n * (c.length + 1))) (fun i => dyB (zS n gC ^ i) (n * i)) (op2B (· * ·) (dyB (zS n gA) n) (dyB (zS n gC ^ c.length) (n * c.length))) where
 less V x i hi hL := sp_less V _ _ (dy_sz _ _) (dy_sz _ _) hL
 times1 V x i hi hL := sp_times V _ _ (dy_sz _ _) (Nat.le_trans (fx_size _ _ _) (by omega)) hL
 times2 V x i hi hL := by
  have h := sp_times V (op2B (· * ·) (dyB (sqP gA gC n thr x c i) (n * (i + 1))) (op2B (· - ·) (dyB (zS n gC) n) (dyB (blw gC n (thr + x - c.getD i 0)) n))) (dyB (zS n gC ^ (c.length - 1 - i)) (n * (c.length - 1 - i))) (Nat.le_trans (fx_size _ _ _) (by omega)) (dy_sz _ _) hL
  rw [sq_hit hA hC hx thr x hi hm] at h
  exact h
 plus V x i j hi hj hL := by
  have h := sp_plus V (dyB (sqS gA gC n thr c kA i j) (n * (c.length + 1))) (dyB (gA x * sqF gC n (thr + x) i 0 c) (n * (c.length + 1))) (dy_sz _ _) (dy_sz _ _) hL
  rw [sq_plus hA hC rA thr (Nat.le_of_lt hi) hj hm] at h
  exact h
 next V x i hi hL := by
  have h := sp_times V (dyB (sqP gA gC n thr x c i) (n * (i + 1))) (dyB (blw gC n (thr + x - c.getD i 0)) n) (dy_sz _ _) (dy_sz _ _) hL
  rw [sq_times hA hC hx thr x c (i := i) (Nat.le_trans (Nat.mul_le_mul_left n (by omega)) hm)] at h
  exact h
 none V x j hj hL := by
  have h := sp_plus V (dyB (sqS gA gC n thr c kA c.length j) (n * (c.length + 1))) (dyB (sqP gA gC n thr x c c.length) (n * (c.length + 1))) (dy_sz _ _) (dy_sz _ _) hL
  rw [sqP_end, sq_plus hA hC rA thr (Nat.le_refl _) hj hm, ← sqP_end] at h
  exact h
 after V i hi hL := by
  have h := sp_times V (dyB (zS n gC ^ i) (n * i)) (dyB (zS n gC) n) (dy_sz _ _) (dy_sz _ _) hL
  rw [sq_after hC (Nat.le_trans (Nat.mul_le_mul_left n (by omega)) hm)] at h
  exact h
 last1 V hL := sp_times V _ _ (dy_sz _ _) (dy_sz _ _) hL
 last2 V hL := by
  have h := sp_less V ⟨#[49]⟩ (op2B (· * ·) (dyB (zS n gA) n) (dyB (zS n gC ^ c.length) (n * c.length))) (by decide) (Nat.le_trans (fx_size _ _ _) (by omega)) hL
  rw [sq_sure hA hC hm] at h
  exact h
 start x := by
  show dyB (gA x * sqB gC n (thr + x) c 0) (n * (0 + 1)) = _
  rw [sqB, Nat.mul_one, Nat.zero_add, Nat.mul_one]
 zero i := by
  show dyB (sqS gA gC n thr c kA i 0) _ = _
  unfold sqS
  rw [List.take_zero, sV_nil, dy_zero]
 one := by
  show dyB (zS n gC ^ 0) (n * 0) = _
  rw [Nat.pow_zero, Nat.mul_zero]
  exact dy_full 0
 fin i hi := by
  show dyB (sqS gA gC n thr c kA i kA.length) _ = _
  rw [sqS_end rA]
 late := rfl
theorem SqT.conv {gA gC : Int → Nat} {n : Nat} {thr : Int} {c kA : List Int} {SA SC LT SA' SC' LT' Z0 Z0' : ByteArray} {M : Int → ByteArray} {P D1 D2 H : Int → Nat → ByteArray} {F : Nat → Nat → ByteArray} {AF : Nat → ByteArray} (h : SqT gA gC n thr c kA SA SC LT M P D1 D2 H F AF Z0) (e1 : Z0 = Z0') (e2 : SA = SA') (e3 : SC = SC') (e4 : LT = LT') : SqT gA gC n thr c kA SA' SC' LT' M P D1 D2 H F AF Z0' := by
 subst e1 e2 e3 e4; exact h
theorem sqW_startF {gA gC : Int → Nat} {n : Nat} {thr : Int} {c kA : List Int} {SA SC LT Z0 : ByteArray} {M : Int → ByteArray} {P D1 D2 H : Int → Nat → ByteArray} {F : Nat → Nat → ByteArray} {AF : Nat → ByteArray} (h : SqT gA gC n thr c kA SA SC LT M P D1 D2 H F AF Z0) : sqW gA gC n thr c 0 = [(m1B, F c.length kA.length), (lateB, LT)] := by
 unfold sqW
 rw [h.fin _ (Nat.le_refl _), h.late]; rfl
theorem sqW_nextF {gA gC : Int → Nat} {n : Nat} {thr : Int} {c kA : List Int} {SA SC LT Z0 : ByteArray} {M : Int → ByteArray} {P D1 D2 H : Int → Nat → ByteArray} {F : Nat → Nat → ByteArray} {AF : Nat → ByteArray} (h : SqT gA gC n thr c kA SA SC LT M P D1 D2 H F AF Z0) (i : Nat) (hi : i ≤ c.length) : sqW gA gC n thr c (i + 1) = sqW gA gC n thr c i ++ [(numB i, F i kA.length)] := by
 rw [sqW_succ, h.fin i hi]
def tlS (AF : Nat → ByteArray) (L i : Nat) : List ByteArray := (List.range L).map fun k => if L - i ≤ k then AF (L - 1 - k) else ⟨#[]⟩
theorem tlS_length (AF : Nat → ByteArray) (L i : Nat) : (tlS AF L i).length = L := by simp [tlS]
theorem tlS_get {AF : Nat → ByteArray} {L i k : Nat} (h : k < L) : (tlS AF L i)[k]? = some (if L - i ≤ k then AF (L - 1 - k) else ⟨#[]⟩) := by
 unfold tlS
 rw [List.getElem?_map, List.getElem?_range h]; rfl
theorem tlS_zero (AF : Nat → ByteArray) (L : Nat) : tlS AF L 0 = List.replicate L ⟨#[]⟩ := by
 apply List.ext_getElem?
 intro k
 by_cases h : k < L
 ·rw [tlS_get h, if_neg (by omega), List.getElem?_replicate, if_pos h]
 ·rw [List.getElem?_eq_none (by rw [tlS_length]; omega), List.getElem?_eq_none (by simp; omega)]
theorem tlS_next {AF : Nat → ByteArray} {L i : Nat} (h : i < L) : (tlS AF L i).set (L - 1 - i) (AF i) = tlS AF L (i + 1) := by
 apply List.ext_getElem?
 intro k
 rw [List.getElem?_set, tlS_length]
 by_cases hk : k < L
 ·rw [tlS_get hk, tlS_get hk]
  by_cases e : L - 1 - i = k
  ·subst e
   rw [if_pos rfl, if_pos (by omega), if_pos (by omega), show L - 1 - (L - 1 - i) = i by omega]
  ·rw [if_neg e]
   by_cases e2 : L - i ≤ k
   ·rw [if_pos e2, if_pos (by omega)]
   ·rw [if_neg e2, if_neg (by omega)]
 ·rw [List.getElem?_eq_none (l := tlS AF L i) (by rw [tlS_length]; omega), List.getElem?_eq_none (l := tlS AF L (i + 1)) (by rw [tlS_length]; omega), if_neg (by omega)]
theorem tlS_end {AF : Nat → ByteArray} {L k : Nat} (h : k < L) : (tlS AF L L)[k]? = some (AF (L - 1 - k)) := by rw [tlS_get h, if_pos (by omega)]
def fnS (F : Nat → Nat → ByteArray) (L j i : Nat) : List ByteArray := (List.range L).map fun k => if k < i then F k (j + 1) else F k j
theorem fnS_length (F : Nat → Nat → ByteArray) (L j i : Nat) : (fnS F L j i).length = L := by simp [fnS]
theorem fnS_get {F : Nat → Nat → ByteArray} {L j i k : Nat} (h : k < L) : (fnS F L j i)[k]? = some (if k < i then F k (j + 1) else F k j) := by
 unfold fnS
 rw [List.getElem?_map, List.getElem?_range h]; rfl
theorem fnS_at {F : Nat → Nat → ByteArray} {L j i : Nat} (h : i < L) : (fnS F L j i)[i]? = some (F i j) := by rw [fnS_get h, if_neg (Nat.lt_irrefl _)]
theorem fnS_next {F : Nat → Nat → ByteArray} {L j i : Nat} (h : i < L) : (fnS F L j i).set i (F i (j + 1)) = fnS F L j (i + 1) := by
 apply List.ext_getElem?
 intro k
 rw [List.getElem?_set, fnS_length]
 by_cases hk : k < L
 ·rw [fnS_get hk, fnS_get hk]
  by_cases e : i = k
  ·subst e
   rw [if_pos rfl, if_pos hk, if_pos (by omega)]
  ·rw [if_neg e]
   by_cases e2 : k < i
   ·rw [if_pos e2, if_pos (by omega)]
   ·rw [if_neg e2, if_neg (by omega)]
 ·rw [List.getElem?_eq_none (l := fnS F L j i) (by rw [fnS_length]; omega), List.getElem?_eq_none (l := fnS F L j (i + 1)) (by rw [fnS_length]; omega), if_neg (by omega)]
theorem fnS_row (F : Nat → Nat → ByteArray) (L j : Nat) : fnS F L j L = fnS F L (j + 1) 0 := by
 apply List.ext_getElem?
 intro k
 by_cases hk : k < L
 ·rw [fnS_get hk, fnS_get hk, if_pos hk, if_neg (by omega)]
 ·rw [List.getElem?_eq_none (by rw [fnS_length]; omega), List.getElem?_eq_none (by rw [fnS_length]; omega)]
theorem fnS_zero {F : Nat → Nat → ByteArray} (L : Nat) {s : ByteArray} (h : ∀ i, F i 0 = s) : fnS F L 0 0 = List.replicate L s := by
 apply List.ext_getElem?
 intro k
 by_cases hk : k < L
 ·rw [fnS_get hk, if_neg (by omega), List.getElem?_replicate, if_pos hk, h]
 ·rw [List.getElem?_eq_none (by rw [fnS_length]; omega), List.getElem?_eq_none (by simp; omega)]
open Go.Sort
theorem sp_below (w : World) (bn : Nat) (v1 : Value) (most : Int) (g : Int → Nat) (n : Nat) (k : List Int) (hn : n ≤ 32) (hz : zS n g ≤ 2 ^ n) (hr : Runs g n k) (hlen : k.length ≤ 100) (hc : w.cell? ⟨bn, 1, none⟩ = some v1) (hv : PRow w v1 (k.map fun v => (v, dyB (g v) n))) (hL : Lay w) :
 Calls Tryz.prog 33 #[.int .i64 most, .pointer (some ⟨bn, 0, none⟩)] w fun e w' => e = .returned (.string (dyB (blw g n most) n)) ∧ Below w.heap.size w w' := by
 obtain ⟨a, cp, rfl, q1, q2, q3⟩ := hv.ex
 obtain ⟨L, hLL⟩ : ∃ L, k.length = L := ⟨_, rfl⟩
 have e0 : (k.map fun v => (v, dyB (g v) n)).length = L := by rw [List.length_map]; exact hLL
 rw [e0] at q1 hc
 have HLL := hid hLL; have HL := hid hL; have HLN := hid hlen; have H3 := hid q3
 have HP := fun i (v : Int) (h : k[i]? = some v) (h2 : v < most) => hid (be_plus hz hr h h2 (by omega))
 have HS := fun i (v : Int) (h : k[i]? = some v) (h2 : most ≤ v) => hid (be_skip (g := g) h (Int.not_lt.2 h2))
 have HE := hid (be_end hr most)
 have HZ0 : Hid (dyB (beN' g k most 0) n = ⟨#[48]⟩) := by
  show _ = _
  unfold beN'
  rw [List.take_zero, sV_nil, dy_zero]
 clear hv hL hLL e0 q3 hr hz hlen hn
 go_enter Tryz.func33, Tryz.ntmps33
 go_wp2_with fail
 go_loopw [4, 6, 10] (fun s4 s6 s10 wr => ∃ i : Nat, s10 = .int .i64 (i : Nat) ∧ i ≤ L ∧ s4 = .string (dyB (beN' g k most i) n) ∧ Hid (Below w.heap.size w wr)) (fun s4 s6 s10 wr => L - (intOf s10).toNat)
 case atStart => exact ⟨0, rfl, Nat.zero_le _, by rw [HZ0.out], Below.refl _ _⟩
 case round =>
  obtain ⟨i, rfl, hi, rfl, hB⟩ := hrel
  have hl100 := HLN.out
  by_cases hlt : i < L
  ·obtain ⟨v, hv⟩ : ∃ v, k[i]? = some v := ⟨_, List.getElem?_eq_getElem (by rw [HLL.out]; exact hlt)⟩
   obtain ⟨gd, od, rfl, hgd, m1, m2⟩ := H3.out i (v, dyB (g v) n) (by rw [List.getElem?_map, hv]; rfl)
   dsimp only at m1 m2
   have r1 := (hB.out.cell (p := ⟨gd, od + i * 2, none⟩) hgd).trans m1
   have r2 := (hB.out.cell (p := ⟨gd, od + i * 2 + 1, none⟩) hgd).trans m2
   have f1 : (0 : Int) ≤ (i : Int) := by omega
   have f2 : (i : Int) < (L : Int) := by omega
   have wi : IntKind.i64.wrap ((i : Int) + 1) = ((i + 1 : Nat) : Int) := by rw [HLL.out] at hl100; rw [IntWalk.i64_in _ ⟨by omega, by omega⟩]; omega
   have PP := fun V hV => hid (sp_plus V (dyB (beN' g k most i) n) (dyB (g v) n) (dy_sz _ _) (dy_sz _ _) hV)
   have HPi := HP i v hv
   have HSi := HS i v hv
   obtain ⟨S, hS⟩ : ∃ S, dyB (beN' g k most i) n = S := ⟨_, rfl⟩
   obtain ⟨Y, hY⟩ : ∃ S, dyB (g v) n = S := ⟨_, rfl⟩
   rw [hS, hY] at PP
   rw [hS] at HPi ⊢
   rw [hY] at HPi r2
   have HS0 := hid hS
   have AM := hid ((Below.refl wr.heap.size wr).alloc (Nat.le_refl _) (.cells #[.int .i64 v, .string Y] 68))
   have XM := hid (Blk.new wr #[.int .i64 v, .string Y] 68)
   have g0 := XM.out.cell 0
   have g1 := XM.out.cell 1
   simp at g0 g1
   have HLT := hid hlt
   by_cases hvm : v < most
   ·have t0 : decide (v < most) = true := decide_eq_true hvm
    have HX := HPi hvm
    rw [HX.out] at PP
    clear hv hgd m1 m2 hS hY hlt hi hl100 hvm HPi HSi HX
    go_wp2_with fail
    refine (PP _ (HL.out.call (bnext hB.out AM.out))).out.mono ?_; rintro e w2 ⟨rfl, hb2⟩
    have y2 := hid (bnext hB.out (bnext AM.out hb2))
    clear hb2
    go_wp2_with fail
    go_roundw
    case rel => exact ⟨i + 1, by go_num, HLT.out, rfl, y2⟩
    case measure => simp [intOf] <;> (have := HLT.out; omega)
   ·have t0 : decide (v < most) = false := decide_eq_false hvm
    have HX := HSi (Int.not_lt.1 hvm)
    clear hv hgd m1 m2 hS hY hlt hi hl100 HPi HSi
    go_wp2_with fail
    go_roundw
    case rel => exact ⟨i + 1, by go_num, HLT.out, by rw [HX.out, HS0.out], bnext hB.out AM.out⟩
    case measure => simp [intOf] <;> (have := HLT.out; omega)
  ·obtain rfl : i = L := by omega
   have q0 : decide ((i : Int) < (i : Int)) = false := by simp
   have hE : dyB (beN' g k most i) n = dyB (blw g n most) n := by rw [← HE.out, HLL.out]
   rw [hE]
   clear hlt hi hl100 hE
   go_wp2_with fail
   go_ret
   exact ⟨rfl, hB.out⟩
theorem sp_isZ (w : World) (x : ByteArray × ByteArray) : Calls Tryz.prog 40 #[.agg #[.string x.1, .string x.2]] w fun e w' => e = .returned (.bool (!notZ x)) ∧ Below w.heap.size w w' := by
 obtain ⟨k, v⟩ := x
 have X1 := hid (Blk.new w #[.string k, .string v] 39)
 have z1 := X1.out.cell 1
 simp at z1
 dsimp only
 by_cases h : v = ⟨#[48]⟩
 ·subst h
  have e1 : (!notZ (k, (⟨#[48]⟩ : ByteArray))) = true := by simp [notZ]
  rw [e1]
  go_enter Tryz.func40, Tryz.ntmps40
  go_wp2_with fail
  go_ret
  exact ⟨rfl, (Below.refl _ _).alloc (Nat.le_refl _) _⟩
 ·have e1 : (!notZ (k, v)) = false := by simp [notZ, h]
  rw [e1]
  have t1 : (v.toList == [48]) = false := ne_lit h
  clear h e1
  go_enter Tryz.func40, Tryz.ntmps40
  go_wp2_with fail
  go_ret
  exact ⟨rfl, (Below.refl _ _).alloc (Nat.le_refl _) _⟩
theorem sp_order (p q : ByteArray × ByteArray) (w : World) : Calls Tryz.prog 42 #[.agg #[.string p.1, .string p.2], .agg #[.string q.1, .string q.2]] w fun e w' => e = .returned (.int .i64 (cmpK p q)) ∧ ∃ n os', w' = grow (w.drewN n) os' := by
 obtain ⟨p1, p2⟩ := p
 obtain ⟨q1, q2⟩ := q
 dsimp only
 have HC := fun V => hid (s_Compare V p1 q1)
 unfold cmpK keyL
 dsimp only
 obtain ⟨r, hr⟩ : ∃ r : Int, (if p1.data.toList < q1.data.toList then (-1 : Int) else if q1.data.toList < p1.data.toList then 1 else 0) = r := ⟨_, rfl⟩
 rw [hr] at HC ⊢
 clear hr
 go_enter Tryz.func42, Tryz.ntmps42
 go_wp2_with fail
 refine (HC _).out.mono ?_; rintro e w1 ⟨rfl, rfl⟩
 go_wp2_with fail
 go_ret
 exact ⟨rfl, 0, _, by rw [alloc_eq_grow, alloc_eq_grow, grow_grow]; rfl⟩
end Go.Proofs.YtlmnpocifldpmaaGreatDoor
namespace Go.Proofs.YtlmnpocifldpmaaGreatDoor
open Go.RowKit
open Go.Shelf
open Go.Lib (decDigits nDigits)
def orZ : List Int → Int
 | [] => 0
 | x :: r => if x ≠ 0 then x else orZ r
theorem orZ_at : ∀ {l : List Int} {i : Nat}, (∀ (j : Nat) (x : Int), j < i → l[j]? = some x → x = 0) → orZ l = orZ (l.drop i)
 | [], i, _ => by simp [orZ]
 | b :: r, 0, _ => rfl
 | b :: r, i + 1, h => by
  have h1 := h 0 b (by omega) rfl
  have h3 := orZ_at (l := r) (i := i) (fun j c hj hc => h (j + 1) c (by omega) (by simpa using hc))
  rw [orZ, if_neg (by simp [h1]), h3]
  rfl
theorem s_OrE (w : World) (v : Value) (l : List Int) (hv : Row w v (zs l)) :
 Calls Tryz.prog 44 #[v] w fun e w' => e = .returned (.int .i64 (orZ l)) ∧ w = w' := by
 obtain ⟨a, c, rfl, q1, q2, q3⟩ := hv.openZ
 obtain ⟨n, hn⟩ : ∃ n, l.length = n := ⟨_, rfl⟩
 obtain ⟨X, hX⟩ : ∃ X, orZ l = X := ⟨_, rfl⟩
 rw [hn] at q1 ⊢
 rw [hX]
 have HN := hid hn; have Q3 := hid q3; have HX := hid hX
 clear hv q3 hn hX
 go_enter Tryz.func44, Tryz.ntmps44
 go_wp2_with fail
 go_loop [8] (fun ii => ∃ i : Nat, ii = .int .i64 i ∧ i ≤ n ∧ Hid (∀ (j : Nat) (x : Int), j < i → l[j]? = some x → x = 0)) (fun ii => n - (intOf ii).toNat)
 case atStart => exact ⟨0, rfl, Nat.zero_le _, fun j x hj => absurd hj (by omega)⟩
 case round =>
  obtain ⟨i, rfl, hi, hI⟩ := hrel
  by_cases hlt : i < n
  ·obtain ⟨x, hx⟩ : ∃ x, l[i]? = some x := ⟨_, List.getElem?_eq_getElem (by rw [HN.out]; exact hlt)⟩
   obtain ⟨g, o, rfl, hg, hc⟩ := Q3.out i x hx
   have hdrop : l.drop i = x :: l.drop (i + 1) := by
    have hil : i < l.length := by rw [HN.out]; exact hlt
    rw [List.drop_eq_getElem_cons hil]
    have := List.getElem?_eq_getElem hil
    rw [hx] at this
    rw [Option.some.inj this]
   have HXX := hid hx; have HD := hid hdrop
   have b1 : (0 : Int) ≤ (i : Int) := by omega
   have b2 : (i : Int) < (n : Int) := by omega
   have wi : IntKind.i64.wrap ((i : Int) + 1) = ((i + 1 : Nat) : Int) := by rw [IntWalk.i64_in _ ⟨by omega, by omega⟩]; omega
   clear hx hdrop
   by_cases hx0 : x = 0
   ·have HZ := hid hx0
    have q0 : (x == 0) = true := by rw [beq_iff_eq]; exact hx0
    clear hx0
    go_wp2_with fail
    go_round
    case rel => exact ⟨i + 1, by go_num, by omega, fun j y hj hy => by
     rcases Nat.lt_or_ge j i with h | h
     ·exact hI.out j y h hy
     ·obtain rfl : j = i := by omega
      rw [HXX.out] at hy; cases hy; exact HZ.out⟩
    case measure => simp [intOf] <;> omega
   ·have q0 : (x == 0) = false := by rw [beq_eq_false_iff_ne]; exact hx0
    have HE : Hid (X = x) := by
     show X = x
     rw [← HX.out, orZ_at hI.out, HD.out, orZ, if_pos hx0]
    clear hx0
    go_wp2_with fail
    go_ret
    exact ⟨by rw [HE.out]; rfl, rfl⟩
  ·obtain rfl : i = n := by omega
   have HE : Hid (X = 0) := by
    show X = 0
    have hd : l.drop i = [] := List.drop_eq_nil_of_le (by rw [HN.out]; exact Nat.le_refl _)
    rw [← HX.out, orZ_at hI.out, hd]; rfl
   have q0 : decide ((i : Int) < (i : Int)) = false := by simp
   clear hlt
   go_wp2_with fail
   go_ret
   exact ⟨by rw [HE.out]; rfl, rfl⟩
end Go.Proofs.YtlmnpocifldpmaaGreatDoor
namespace Go.Proofs.YtlmnpocifldpmaaGreatDoor
open Go.RowKit
open Go.Shelf
theorem row_two (w : World) (p q : Int) (t : TypeId) : Row (w.alloc (.cells #[.int .i64 p, .int .i64 q] t)) (.slice (some ⟨w.heap.size, 0, none⟩) 2 2) (zs [p, q]) := by
 refine Row.of_blk (n := 2) (xs := zs [p, q]) (Blk.new w #[.int .i64 p, .int .i64 q] t) rfl (by decide) (fun i x hx => ?_) (Nat.le_refl _) (by decide)
 match i, hx with
 | 0, hx => exact hx
 | 1, hx => exact hx
 | i + 2, hx => simp [zs] at hx
open Go.Lib (decDigits nDigits)
theorem orZ_two (x y : Int) : orZ [x, y] = if x ≠ 0 then x else y := by
 unfold orZ
 by_cases h : x = 0
 ·by_cases h2 : y = 0 <;> simp [orZ, h, h2]
 ·simp [h]
theorem sp_question (w : World) (v : Value) (c : List Int) (thr : Int) (a r : ByteArray) (hv : Row w v (zs c)) (ha : a.size ≤ 100000) (hr : r.size ≤ 100000) (hL : Lay w) :
 Calls Tryz.prog 31 #[v, .int .i64 thr, .agg #[.string a, .string r]] w fun e w' => e = .returned (.int .i64 (sqnE c thr a r)) ∧ Below w.heap.size w w' := by
 have HA := fun V hV => hid (sp_ratio V a ha hV)
 have HB := fun V hV => hid (sp_ratio V r hr hV)
 have CO := fun V v h => hid (s_OrE V v [gPE a, gPE r] h)
 rw [orZ_two] at CO
 have HV := hid hv
 obtain ⟨s, cp, rfl, q1, q2, q3⟩ := hv.openZ
 have HC := fun V hV => hid (s_ContainsFuncI V (.slice s c.length cp) c 92 wildB hV (by omega) (enters_of Tryz.func92 (by kernel_rfl) rfl) (fun W x => sp_wild W x))
 have HT := fun V => hid (sp_wild V thr)
 have HL := hid hL
 have A0 := hid ((Below.refl w.heap.size w).alloc (Nat.le_refl _) (.cells #[.string a, .string r] 60))
 have X0 := hid (Blk.new w #[.string a, .string r] 60)
 obtain ⟨n, hn⟩ : ∃ n, c.length = n := ⟨_, rfl⟩
 obtain ⟨b, hb⟩ : ∃ b, c.any wildB = b := ⟨_, rfl⟩
 obtain ⟨bt, hbt⟩ : ∃ b, wildB thr = b := ⟨_, rfl⟩
 obtain ⟨x0, hx⟩ : ∃ z, gPE a = z := ⟨_, rfl⟩
 obtain ⟨z0, hz⟩ : ∃ z, gPE r = z := ⟨_, rfl⟩
 unfold sqnE ctE zE
 simp only [hx] at HA
 simp only [hz] at HB
 rw [hx, hz] at CO ⊢
 simp only [hb, hn] at HC
 simp only [hbt] at HT
 rw [hn] at HV ⊢
 rw [hb, hbt]
 clear hv ha hr hL q1 q2 q3 hn hb hbt hx hz
 by_cases h0 : n = 0
 ·subst h0
  rw [if_pos rfl, if_pos (by decide)]
  go_enter Tryz.func31, Tryz.ntmps31
  go_wp2_with fail
  go_ret
  exact ⟨rfl, A0.out⟩
 have t0 : ((n : Int) == 0) = false := by rw [beq_eq_false_iff_ne]; omega
 by_cases h1 : 256 < n
 ·have t1 : decide ((256 : Int) < (n : Int)) = true := by simp; omega
  rw [if_neg h0, if_pos h1, if_pos (by decide)]
  clear h0 h1
  go_enter Tryz.func31, Tryz.ntmps31
  go_wp2_with fail
  go_ret
  exact ⟨rfl, A0.out⟩
 have t1 : decide ((256 : Int) < (n : Int)) = false := by simp; omega
 rw [if_neg h0, if_neg h1]
 clear h0 h1
 cases b
 case true =>
  rw [if_pos rfl, if_pos (by decide)]
  go_enter Tryz.func31, Tryz.ntmps31
  go_wp2_with fail
  refine (HC _ (HV.out.call A0.out)).out.mono ?_; rintro e w1 ⟨rfl, rfl⟩
  go_wp2_with fail
  go_ret
  exact ⟨rfl, A0.out⟩
 simp only [Bool.false_eq_true, if_false, ne_eq, not_true_eq_false]
 cases bt
 case true =>
  simp only [if_true]
  go_enter Tryz.func31, Tryz.ntmps31
  go_wp2_with fail
  refine (HC _ (HV.out.call A0.out)).out.mono ?_; rintro e w1 ⟨rfl, rfl⟩
  go_wp2_with fail
  refine (HT _).out.mono ?_; rintro e w2 ⟨rfl, rfl⟩
  go_wp2_with fail
  go_ret
  exact ⟨rfl, A0.out⟩
 simp only [Bool.false_eq_true, if_false]
 obtain ⟨q, hq⟩ : ∃ q, (if x0 ≠ 0 then x0 else z0) = q := ⟨_, rfl⟩
 have hq' : (if ¬x0 = 0 then x0 else z0) = q := hq
 rw [hq] at CO
 rw [hq']
 have HQ := hid hq
 clear hq hq'
 go_enter Tryz.func31, Tryz.ntmps31
 go_wp2_with fail
 refine (HC _ (HV.out.call A0.out)).out.mono ?_; rintro e w1 ⟨rfl, rfl⟩
 go_wp2_with fail
 refine (HT _).out.mono ?_; rintro e w2 ⟨rfl, rfl⟩
 go_wp2_with fail
 obtain ⟨W, hW⟩ : ∃ W, w.alloc (.cells #[.string a, .string r] 60) = W := ⟨_, rfl⟩
 rw [hW] at A0 X0 ⊢
 have KK : Hid (∀ V, Below W.heap.size W V → V.cell? ⟨w.heap.size, 0, none⟩ = some (.string a) ∧ V.cell? ⟨w.heap.size, 1, none⟩ = some (.string r)) := fun V hV =>
  ⟨(X0.out.call hV).cell 0, (X0.out.call hV).cell 1⟩
 clear X0 hW
 refine held_plain [0, 1, 3, 4] 5 (fun V => V.cell? ⟨w.heap.size, 0, none⟩ = some (.string a) ∧ V.cell? ⟨w.heap.size, 1, none⟩ = some (.string r)) (by kernel_rfl) (by kernel_rfl) (by kernel_rfl) (by kernel_rfl) (KK.out _ (Below.refl _ _).drew) ?_
 iterate 4
  refine ⟨_, rfl, ?_⟩
  apply Exists.intro
  refine ⟨.inl ⟨by rfl, ?_⟩, ?_⟩
  ·(intro W' hW'; obtain ⟨q8, q9⟩ := hW'; go_simp; try (with_reducible rfl))
  (dsimp only [Act.put]; try simp only [List.setIfInBounds_toArray, List.set_cons_zero, List.set_cons_succ])
 refine held_one (i := 2) (by kernel_rfl) (by rfl) (by rfl) ?_
 go_wp2_with fail
 refine (HA _ (HL.out.call (A0.out.drew))).out.mono ?_; rintro e w3 ⟨rfl, hb3⟩
 have y3 := hid (show Below W.heap.size W w3 from (Below.refl _ _).drew.trans hb3); clear hb3
 go_wp2_with fail
 refine ⟨KK.out _ y3.out, ?_⟩
 refine held_one (i := 5) (by kernel_rfl) (by rfl) (by rfl) ?_
 go_wp2_with fail
 refine (HB _ (HL.out.call (bnext A0.out y3.out))).out.mono ?_; rintro e w4 ⟨rfl, hb4⟩
 have y4 := hid (bnext y3.out hb4); clear hb4
 go_wp2_with fail
 refine ⟨KK.out _ y4.out, ?_⟩
 refine held_one (i := 6) (by kernel_rfl) (by rfl) (by rfl) ?_
 go_wp2_with fail
 have y5 := hid (y4.out.alloc y4.out.size (.cells #[.int .i64 x0, .int .i64 z0] 27))
 refine ⟨KK.out _ y5.out, ?_⟩
 refine held_one (i := 7) (by kernel_rfl) (by rfl) (by rfl) ?_
 go_wp2_with fail
 refine (CO _ _ (row_two _ _ _ _)).out.mono ?_; rintro e w6 ⟨rfl, rfl⟩
 go_wp2_with fail
 refine ⟨KK.out _ y5.out, ?_⟩
 refine held_more (is := [8]) (g := 0) (by kernel_rfl) rfl (KK.out _ y5.out) (by kernel_rfl) ?_
 iterate 1
  refine ⟨_, rfl, ?_⟩
  apply Exists.intro
  refine ⟨.inl ⟨by rfl, ?_⟩, ?_⟩
  ·(intro W' hW'; obtain ⟨q8, q9⟩ := hW'; go_simp; try (with_reducible rfl))
  (dsimp only [Act.put]; try simp only [List.setIfInBounds_toArray, List.set_cons_zero, List.set_cons_succ])
 refine wpAnyH_done (by kernel_rfl) ?_ _
 simp only [Only]
 go_wp2_with fail
 go_ret
 exact ⟨rfl, bnext A0.out y5.out⟩
end Go.Proofs.YtlmnpocifldpmaaGreatDoor
namespace Go.Proofs.YtlmnpocifldpmaaGreatDoor
open Go.RowKit
open Go.Lib (decDigits nDigits)
theorem wT_bound (a b : ByteArray) (hb : b.size ≤ 256) : -256 ≤ (wT a b).2.1 ∧ (wT a b).2.1 ≤ 256 := by
 unfold wT
 split
 ·rename_i h
  have he : gPE a = 0 := by
   unfold gE at h
   split at h
   ·rename_i h2; exact absurd h h2
   ·rename_i h2; exact Classical.byContradiction h2
  have hl : b.data.toList.length = b.size := list_size b
  obtain ⟨u, _, h2⟩ := drT_is (gPE_ok he).2 true b.data.toList
  have e : twoT (bN (cW a)) (bN (qD a)) b.data.toList = drT (bN (cW a)) (bN (qD a)) true b.data.toList := rfl
  rw [e]
  rcases h2 with ⟨-, h2⟩ | ⟨v, h3, h4, -, h2⟩
  ·rw [h2]; simp
  ·rw [h2]; simp; omega
 ·simp
def nzL (r : ByteArray) (c : List Int) (bs : List ByteArray) : List Int := List.zipWith (fun n b => n + (wT r b).2.1) c bs
def dnL (r : ByteArray) (bs : List ByteArray) : Bool := bs.all fun b => (wT r b).1
theorem nzL_length {r : ByteArray} {c : List Int} {bs : List ByteArray} (h : bs.length = c.length) : (nzL r c bs).length = c.length := by unfold nzL; rw [List.length_zipWith, h, Nat.min_self]
theorem nzL_get {r : ByteArray} {c : List Int} {bs : List ByteArray} {i : Nat} {n : Int} {b : ByteArray} (h1 : c[i]? = some n) (h2 : bs[i]? = some b) : (nzL r c bs)[i]? = some (n + (wT r b).2.1) := by
 unfold nzL
 rw [List.getElem?_zipWith, h1, h2]
theorem nzO_two {r : ByteArray} : ∀ {c : List Int} {bs : List ByteArray}, bs.length = c.length → nzO true r c bs = if dnL r bs = true then some (nzL r c bs) else none
 | [], [], _ => rfl
 | n :: cs, b :: bs, h => by
  have ih := nzO_two (r := r) (c := cs) (bs := bs) (by simpa using h)
  rw [nzO, ih]
  unfold nz1
  simp only [if_true]
  unfold dnL nzL
  rw [List.all_cons, List.zipWith_cons_cons]
  by_cases h1 : (wT r b).1 = true
  ·rw [if_pos h1, h1, Bool.true_and]
   by_cases h2 : (bs.all fun b => (wT r b).1) = true
   ·rw [if_pos h2, if_pos h2]; rfl
   ·rw [if_neg h2, if_neg h2]; rfl
  ·rw [if_neg h1]
   have h3 : (wT r b).1 = false := Bool.eq_false_iff.2 h1
   have h4 : ((wT r b).1 && bs.all fun b => (wT r b).1) = false := by rw [h3, Bool.false_and]
   rw [h4]; rfl
 | n :: cs, [], h => by simp at h
 | [], b :: bs, h => by simp at h
def nzP (r : ByteArray) (c : List Int) (bs : List ByteArray) (i : Nat) : List Int := (nzL r c bs).take i ++ c.drop i
theorem nzP_zero (r : ByteArray) (c : List Int) (bs : List ByteArray) : nzP r c bs 0 = c := by unfold nzP; rw [List.take_zero, List.drop_zero, List.nil_append]
theorem nzP_end {r : ByteArray} {c : List Int} {bs : List ByteArray} (h : bs.length = c.length) : nzP r c bs c.length = nzL r c bs := by
 unfold nzP
 rw [List.drop_length, List.append_nil, List.take_of_length_le (by rw [nzL_length h]; exact Nat.le_refl _)]
theorem nzP_at {r : ByteArray} {c : List Int} {bs : List ByteArray} (h : bs.length = c.length) {i : Nat} {n : Int} (h1 : c[i]? = some n) : (nzP r c bs i)[i]? = some n := by
 have hi := (List.getElem?_eq_some_iff.1 h1).1
 unfold nzP
 have hl : ((nzL r c bs).take i).length = i := by rw [List.length_take, nzL_length h]; omega
 rw [List.getElem?_append_right (by omega), hl, Nat.sub_self, List.getElem?_drop, Nat.add_zero, h1]
theorem nzP_next {r : ByteArray} {c : List Int} {bs : List ByteArray} (h : bs.length = c.length) {i : Nat} {n : Int} {b : ByteArray} (h1 : c[i]? = some n) (h2 : bs[i]? = some b) : (nzP r c bs i).set i (n + (wT r b).2.1) = nzP r c bs (i + 1) := by
 have hi := (List.getElem?_eq_some_iff.1 h1).1
 unfold nzP
 have hl : ((nzL r c bs).take i).length = i := by rw [List.length_take, nzL_length h]; omega
 rw [List.set_append_right _ _ (by omega), hl, Nat.sub_self, List.take_add_one, nzL_get h1 h2, Option.toList_some, List.append_assoc, List.drop_eq_getElem_cons hi, List.set_cons_zero]
 rfl
theorem dnL_take {r : ByteArray} {bs : List ByteArray} {i : Nat} {b : ByteArray} (h : bs[i]? = some b) : dnL r (bs.take (i + 1)) = (dnL r (bs.take i) && (wT r b).1) := by
 unfold dnL
 rw [List.take_add_one, h, Option.toList_some, List.all_append]
 simp
theorem nzL_rng {r : ByteArray} {c : List Int} {bs : List ByteArray} (hc : ∀ x ∈ c, -1125899906842624 ≤ x ∧ x ≤ 1125899906842624) (hb : ∀ b ∈ bs, b.size ≤ 256) : ∀ x ∈ nzL r c bs, -1125899906842880 ≤ x ∧ x ≤ 1125899906842880 := fun x hx => by
 obtain ⟨i, hi⟩ := List.getElem?_of_mem hx
 unfold nzL at hi
 rw [List.getElem?_zipWith] at hi
 cases h1 : c[i]? with
 | none => rw [h1] at hi; cases hi
 | some n =>
  cases h2 : bs[i]? with
  | none => rw [h1, h2] at hi; cases hi
  | some b =>
   rw [h1, h2] at hi
   cases hi
   have := hc n (List.mem_of_getElem? h1)
   have := wT_bound r b (hb b (List.mem_of_getElem? h2))
   omega
structure FsOk (c : List Int) (thr : Int) (a r : ByteArray) (b : List ByteArray) : Prop where
 pos : 1 ≤ c.length
 le : c.length ≤ 256
 rng : ∀ x ∈ c, -1125899906842624 ≤ x ∧ x ≤ 1125899906842624
 thr : -1125899906842624 ≤ thr ∧ thr ≤ 1125899906842624
 len : b.length = c.length + 1
 b : ∀ x ∈ b, chkE x = 0
theorem wild_rng {x : Int} (h : wildB x = false) : -1125899906842624 ≤ x ∧ x ≤ 1125899906842624 := by
 unfold wildB at h
 simp at h
 omega
theorem sqnE_q {c : List Int} {thr : Int} {a r : ByteArray} (h : sqnE c thr a r = 0) : 1 ≤ c.length ∧ c.length ≤ 256 ∧ (∀ x ∈ c, -1125899906842624 ≤ x ∧ x ≤ 1125899906842624) ∧ -1125899906842624 ≤ thr ∧ thr ≤ 1125899906842624 := by
 obtain ⟨h1, h2, -, -⟩ := sqnE_ok h
 unfold ctE zE at h1
 split at h1
 ·cases h1
 rename_i k0
 split at h1
 ·cases h1
 rename_i k1
 split at h1
 ·cases h1
 rename_i k2
 refine ⟨by omega, by omega, fun x hx => wild_rng ?_, wild_rng h2⟩
 have k3 : c.any wildB = false := by simpa using k2
 rw [List.any_eq_false] at k3
 simpa using k3 x hx
theorem fsE_ok {c : List Int} {thr : Int} {a r : ByteArray} {b : List ByteArray} (h : fsE c thr a r b = 0) : FsOk c thr a r b := by
 have hq : sqnE c thr a r = 0 := by
  unfold fsE at h
  split at h
  ·rename_i h1; exact absurd h h1
  ·rename_i h1; exact Classical.byContradiction h1
 have hw : wdE b ((c.length + 1 : Nat) : Int) = 0 := by
  unfold fsE at h
  rw [if_neg (by simpa using hq)] at h
  exact h
 obtain ⟨q1, q2, q3, q4⟩ := sqnE_q hq
 unfold wdE at hw
 split at hw
 ·rename_i hl
  exact ⟨q1, q2, q3, q4, by omega, bsE_zero.1 hw⟩
 ·cases hw
theorem fs_two {c : List Int} {thr : Int} {a r b0 : ByteArray} {bs : List ByteArray} (h : fsE c thr a r (b0 :: bs) = 0) :
 fsA c thr a r (b0 :: bs) = if ((wT a b0).1 && dnL r bs) = true then fsV c.length (some (hitI (thr + (wT a b0).2.1) (nzL r c bs))) else (0, false) := by
 have OK := fsE_ok h
 have hl : bs.length = c.length := by have := OK.len; rw [List.length_cons] at this; omega
 unfold fsA
 rw [if_pos h, sqO, nzO_two hl]
 unfold nz1
 simp only [if_true]
 cases (wT a b0).1
 ·simp only [Bool.false_and, Bool.false_eq_true, if_false]; rfl
 ·simp only [Bool.true_and, if_true]
  cases dnL r bs
  ·simp only [Bool.false_eq_true, if_false]; rfl
  ·simp only [if_true]; rfl
theorem hitI_eq {t : Int} {l : List Int} {i : Nat} {x : Int} (h : l[i]? = some x) (hx : t ≤ x) (hb : ∀ (j : Nat) (y : Int), j < i → l[j]? = some y → ¬ t ≤ y) : hitI t l = i := by
 obtain ⟨hi, e⟩ := List.getElem?_eq_some_iff.1 h
 unfold hitI
 rw [List.findIdx_eq hi]
 refine ⟨by rw [e]; exact decide_eq_true hx, fun j hj => decide_eq_false (hb j _ hj (List.getElem?_eq_getElem (Nat.lt_trans hj hi)))⟩
theorem hitI_none {t : Int} {l : List Int} (hb : ∀ (j : Nat) (y : Int), j < l.length → l[j]? = some y → ¬ t ≤ y) : hitI t l = l.length := by
 unfold hitI
 rw [List.findIdx_eq_length]
 intro x hx
 obtain ⟨j, hj⟩ := List.getElem?_of_mem hx
 exact decide_eq_false (hb j x (List.getElem?_eq_some_iff.1 hj).1 hj)
open Go.Shelf
open Go.Sort
structure NsI (w : World) (G bn : Nat) (a r : ByteArray) (u0 u1 : Value) (x0 x1 : ByteArray) (L0 L1 : List (Int × ByteArray)) (W : World) : Prop where
 r : Blk W G #[.string a, .string r] 60
 n : Blk W bn #[u0, u1] 64
 s : Blk W (bn + 1) #[.string x0, .string x1] 60
 p0 : W.ownsRow (bn + 1 + 1) 68 2 u0 L0.length (cpF L0)
 p1 : W.ownsRow (bn + 1 + 1) 68 2 u1 L1.length (cpF L1)
 bel : Below w.heap.size w W
theorem NsI.call {w : World} {G bn : Nat} {a r : ByteArray} {u0 u1 : Value} {x0 x1 : ByteArray} {L0 L1 : List (Int × ByteArray)} {W W' : World} (h : NsI w G bn a r u0 u1 x0 x1 L0 L1 W) (hb : Below W.heap.size W W') : NsI w G bn a r u0 u1 x0 x1 L0 L1 W' :=
 ⟨h.r.call hb, h.n.call hb, h.s.call hb, owns_call h.p0 hb, owns_call h.p1 hb, bnext h.bel hb⟩
theorem NsI.fst {w : World} {G bn : Nat} {a r : ByteArray} {u0 u1 u : Value} {x0 x1 x : ByteArray} {L0 L1 L : List (Int × ByteArray)} {W : World} (h : NsI w G bn a r u0 u1 x0 x1 L0 L1 W) (hw : w.heap.size ≤ G) (hG : G < bn) (hu : W.ownsRow (bn + 1 + 1) 68 2 u L.length (cpF L)) :
 NsI w G bn a r u u1 x x1 L L1 ((W.setCell ⟨bn, 0, none⟩ u).setCell ⟨bn + 1, 0, none⟩ (.string x)) := by
 refine ⟨(h.r.other (by simp; omega) _).other (by simp; omega) _, ?_, ?_, ?_, ?_, (h.bel.setCell (by simp; omega) _).setCell (by simp; omega) _⟩
 ·have := (h.n.set 0 u).other (a := ⟨bn + 1, 0, none⟩) (by simp) (.string x)
  simpa using this
 ·have := (h.s.other (a := ⟨bn, 0, none⟩) (by simp) u).set 0 (.string x)
  simpa using this
 ·exact ownsRow_setCell_below (ownsRow_setCell_below hu (by simp; omega) _) (by simp) _
 ·exact ownsRow_setCell_below (ownsRow_setCell_below h.p1 (by simp; omega) _) (by simp) _
theorem NsI.snd {w : World} {G bn : Nat} {a r : ByteArray} {u0 u1 u : Value} {x0 x1 x : ByteArray} {L0 L1 L : List (Int × ByteArray)} {W : World} (h : NsI w G bn a r u0 u1 x0 x1 L0 L1 W) (hw : w.heap.size ≤ G) (hG : G < bn) (hu : W.ownsRow (bn + 1 + 1) 68 2 u L.length (cpF L)) :
 NsI w G bn a r u0 u x0 x L0 L ((W.setCell ⟨bn, 1, none⟩ u).setCell ⟨bn + 1, 1, none⟩ (.string x)) := by
 refine ⟨(h.r.other (by simp; omega) _).other (by simp; omega) _, ?_, ?_, ?_, ?_, (h.bel.setCell (by simp; omega) _).setCell (by simp; omega) _⟩
 ·have := (h.n.set 1 u).other (a := ⟨bn + 1, 1, none⟩) (by simp) (.string x)
  simpa using this
 ·have := (h.s.other (a := ⟨bn, 1, none⟩) (by simp) u).set 1 (.string x)
  simpa using this
 ·exact ownsRow_setCell_below (ownsRow_setCell_below h.p0 (by simp; omega) _) (by simp) _
 ·exact ownsRow_setCell_below (ownsRow_setCell_below hu (by simp; omega) _) (by simp) _
theorem own_openP {W : World} {base : Nat} {v : Value} {L : List (Int × ByteArray)} (h : W.ownsRow base 68 2 v L.length (cpF L)) : ∃ a c, v = .slice a L.length c := by
 obtain ⟨a, c, e, -⟩ := (PRow.of_owns h).ex
 exact ⟨a, c, e⟩
theorem chS_short {a : ByteArray} {n : Nat} (hg : gPE a = 0) (hn : n ≤ 32) : (chS (glR a (n : Nat) true)).length ≤ 100 := by
 have eA : glR a (n : Nat) true = sortM (glP (gV (bN (cW a)) (bN (qD a)) true n) (2 ^ n) n (gL (bN (cW a)) (bN (qD a)) true n)) := by unfold glR; rw [if_pos (by unfold glE; rw [if_neg (by simpa using hg), if_neg (by omega)]), Int.toNat_natCast]
 rw [eA]
 generalize gV (bN (cW a)) (bN (qD a)) true n = g
 generalize gL (bN (cW a)) (bN (qD a)) true n = r
 refine Nat.le_trans (chS_length _) ?_
 rw [sortM_length]
 have : (glP g (2 ^ n) n r).length ≤ 2 * n + 2 := by
  unfold glP glM
  rw [List.length_append]
  have h := List.length_filterMap_le (fun (j : Nat) => if g ((j : Int) - n) = 0 then none else some (zB ((j : Int) - n), shB (g ((j : Int) - n)) (2 ^ n))) (List.range (2 * n + 1))
  rw [List.length_range] at h
  have h2 : (if r = 0 then ([] : List (ByteArray × ByteArray)) else [(lateB, shB r (2 ^ n))]).length ≤ 1 := by split <;> simp
  omega
 omega
theorem chS_bd {g : Int → Nat} {n r : Nat} {x : Int} (h : x ∈ chS (sortM (glP g (2 ^ n) n r))) : -(n : Int) ≤ x ∧ x ≤ n := by
 unfold chS at h
 rw [List.mem_filterMap] at h
 obtain ⟨p, hp, hx⟩ := h
 rcases chS_mass hp with ⟨v, h1, h2, -, h3, -⟩ | ⟨-, h3⟩
 ·rw [h3] at hx; cases hx; exact ⟨h1, h2⟩
 ·rw [h3] at hx; cases hx
theorem strsR_set (l : List ByteArray) (i : Nat) (s : ByteArray) : (strsR l).toArray.setIfInBounds i (.string s) = (strsR (l.set i s)).toArray := by
 simp [strsR, List.map_set]
theorem sp_Law_ok (w : World) (v : Value) (c : List Int) (thr : Int) (a r : ByteArray) (n : Nat) (hv : Row w v (zs c)) (ha : a.size ≤ 100000) (hr : r.size ≤ 100000) (hq : sqnE c thr a r = 0) (hn : n ≤ 32) (hm : n * (c.length + 1) ≤ 256) (hL : LayB w) :
 Calls Tryz.prog 10 #[v, .int .i64 thr, .string a, .string r, .int .i64 (n : Nat)] w fun e w' => (∃ u, e = .returned (.tuple #[u, .int .i64 0]) ∧ MRow w' u (sortM (sqD (gV (bN (cW a)) (bN (qD a)) true n) (gV (bN (cW r)) (bN (qD r)) true n) n thr c))) ∧ Below w.heap.size w w' := by
 obtain ⟨-, -, hga, hgr⟩ := sqnE_ok hq
 obtain ⟨k1, k2, k3, k4, k5⟩ := sqnE_q hq
 have HQ := fun V hV hLV => hid (sp_question V v c thr a r hV ha hr hLV)
 simp only [hq] at HQ
 have PA := fun V hV => hid (sp_chances V a n ha hga hn hV)
 have PC := fun V hV => hid (sp_chances V r n hr hgr hn hV)
 have eA : glR a (n : Nat) true = sortM (glP (gV (bN (cW a)) (bN (qD a)) true n) (2 ^ n) n (gL (bN (cW a)) (bN (qD a)) true n)) := by unfold glR; rw [if_pos (by unfold glE; rw [if_neg (by simpa using hga), if_neg (by omega)]), Int.toNat_natCast]
 have eC : glR r (n : Nat) true = sortM (glP (gV (bN (cW r)) (bN (qD r)) true n) (2 ^ n) n (gL (bN (cW r)) (bN (qD r)) true n)) := by unfold glR; rw [if_pos (by unfold glE; rw [if_neg (by simpa using hgr), if_neg (by omega)]), Int.toNat_natCast]
 have rA := runs_glP (gV (bN (cW a)) (bN (qD a)) true n) (2 ^ n) n (gL (bN (cW a)) (bN (qD a)) true n)
 have rC := runs_glP (gV (bN (cW r)) (bN (qD r)) true n) (2 ^ n) n (gL (bN (cW r)) (bN (qD r)) true n)
 rw [← eA] at rA
 rw [← eC] at rC
 have zA : zS n (gV (bN (cW a)) (bN (qD a)) true n) ≤ 2 ^ n := by have := gV_all (gPE_ok hga).2 true n; omega
 have zC : zS n (gV (bN (cW r)) (bN (qD r)) true n) ≤ 2 ^ n := by have := gV_all (gPE_ok hgr).2 true n; omega
 have lA : (chS (glR a (n : Nat) true)).length ≤ 100 := chS_short hga hn
 have lC : (chS (glR r (n : Nat) true)).length ≤ 100 := chS_short hgr hn
 have vA : ∀ x ∈ chS (glR a (n : Nat) true), -(n : Int) ≤ x ∧ x ≤ n := by rw [eA]; exact fun x hx => chS_bd hx
 have mA : ∀ x, gV (bN (cW a)) (bN (qD a)) true n x ≤ 2 ^ n := fun x => gV_le (gPE_ok hga).2 true n x
 obtain ⟨gA, hgA⟩ : ∃ g, gV (bN (cW a)) (bN (qD a)) true n = g := ⟨_, rfl⟩
 obtain ⟨gC, hgC⟩ : ∃ g, gV (bN (cW r)) (bN (qD r)) true n = g := ⟨_, rfl⟩
 obtain ⟨kA, hkA⟩ : ∃ k, chS (glR a (n : Nat) true) = k := ⟨_, rfl⟩
 obtain ⟨kC, hkC⟩ : ∃ k, chS (glR r (n : Nat) true) = k := ⟨_, rfl⟩
 simp only [hgA, hkA] at PA
 simp only [hgC, hkC] at PC
 rw [hgA, hkA] at rA
 rw [hgC, hkC] at rC
 rw [hgA] at zA
 rw [hgC] at zC
 rw [hkA] at lA vA
 rw [hkC] at lC
 simp only [hgA] at mA
 rw [hgA, hgC]
 have hT := sq_texts (thr := thr) (c := c) zA zC mA rA (by omega)
 obtain ⟨LA, hLA⟩ : ∃ l, (kA.map fun v => (v, dyB (gA v) n)) = l := ⟨_, rfl⟩
 obtain ⟨LC, hLC⟩ : ∃ l, (kC.map fun v => (v, dyB (gC v) n)) = l := ⟨_, rfl⟩
 have nA : LA.length = kA.length := by rw [← hLA, List.length_map]
 have gLA : ∀ (j : Nat) (x : Int), kA[j]? = some x → LA[j]? = some (x, dyB (gA x) n) := fun j x h => by rw [← hLA, List.getElem?_map, h]; rfl
 rw [hLA] at PA
 rw [hLC] at PC
 obtain ⟨M, hM⟩ : ∃ M : Int → ByteArray, (fun m => dyB (blw gC n m) n) = M := ⟨_, rfl⟩
 have PB : Hid (∀ (V : World) (bn : Nat) (v1 : Value) (most : Int), V.cell? ⟨bn, 1, none⟩ = some v1 → PRow V v1 LC → Lay V → Calls Tryz.prog 33 #[.int .i64 most, .pointer (some ⟨bn, 0, none⟩)] V fun e w' => e = .returned (.string (M most)) ∧ Below V.heap.size V w') := fun V bn v1 most h1 h2 h3 => by
  rw [← hM]
  exact sp_below V bn v1 most gC n kC hn zC rC lC h1 (by rw [hLC]; exact h2) h3
 obtain ⟨P, hP⟩ : ∃ P : Int → Nat → ByteArray, (fun (x : Int) (i : Nat) => dyB (sqP gA gC n thr x c i) (n * (i + 1))) = P := ⟨_, rfl⟩
 obtain ⟨D1, hD1⟩ : ∃ P : Int → Nat → ByteArray, (fun (x : Int) (i : Nat) => op2B (· - ·) (dyB (zS n gC) n) (dyB (blw gC n (thr + x - c.getD i 0)) n)) = P := ⟨_, rfl⟩
 obtain ⟨D2, hD2⟩ : ∃ P : Int → Nat → ByteArray, (fun (x : Int) (i : Nat) => op2B (· * ·) (dyB (sqP gA gC n thr x c i) (n * (i + 1))) (op2B (· - ·) (dyB (zS n gC) n) (dyB (blw gC n (thr + x - c.getD i 0)) n))) = P := ⟨_, rfl⟩
 obtain ⟨H, hH⟩ : ∃ P : Int → Nat → ByteArray, (fun (x : Int) (i : Nat) => dyB (gA x * sqF gC n (thr + x) i 0 c) (n * (c.length + 1))) = P := ⟨_, rfl⟩
 obtain ⟨F, hF⟩ : ∃ P : Nat → Nat → ByteArray, (fun (i j : Nat) => dyB (sqS gA gC n thr c kA i j) (n * (c.length + 1))) = P := ⟨_, rfl⟩
 obtain ⟨AF, hAF⟩ : ∃ P : Nat → ByteArray, (fun (i : Nat) => dyB (zS n gC ^ i) (n * i)) = P := ⟨_, rfl⟩
 rw [hM, hP, hD1, hD2, hH, hF, hAF] at hT
 obtain ⟨Z0, hZ0⟩ : ∃ s, op2B (· * ·) (dyB (zS n gA) n) (dyB (zS n gC ^ c.length) (n * c.length)) = s := ⟨_, rfl⟩
 obtain ⟨SA, hSA⟩ : ∃ s, dyB (zS n gA) n = s := ⟨_, rfl⟩
 obtain ⟨SC, hSC⟩ : ∃ s, dyB (zS n gC) n = s := ⟨_, rfl⟩
 obtain ⟨LT, hLT⟩ : ∃ s, dyB (sqL gA gC n c.length) (n * (c.length + 1)) = s := ⟨_, rfl⟩
 rw [hSA] at PA
 rw [hSC] at PC
 have HT := hid (hT.conv hZ0 hSA hSC hLT)
 have ND := hid (sqW_nd gA gC n thr c)
 have DN := hid (sqD_nd gA gC n thr c)
 have WS := hid (fun i (hi : i ≤ c.length) => sqW_nextF (gA := gA) (gC := gC) (thr := thr) (n := n) HT.out i hi)
 have W0 := hid (sqW_startF (gA := gA) (gC := gC) (thr := thr) (n := n) HT.out)
 have DD : Hid (sqD gA gC n thr c = (sqW gA gC n thr c c.length).filter fun x => !(!notZ x)) := by
  show sqD gA gC n thr c = _
  unfold sqD
  refine List.filter_congr fun x _ => ?_
  rw [Bool.not_not]
 have hDl : (sqD gA gC n thr c).length ≤ c.length + 2 := by
  unfold sqD
  refine Nat.le_trans (List.length_filter_le _ _) ?_
  unfold sqW
  rw [List.length_append, sqAll_length]
  simp; omega
 have HDL := hid hDl
 obtain ⟨WW, hWW⟩ : ∃ f, sqW gA gC n thr c = f := ⟨_, rfl⟩
 obtain ⟨DF, hDF⟩ : ∃ f, sqD gA gC n thr c = f := ⟨_, rfl⟩
 rw [hWW] at ND WS W0 DD
 rw [hDF] at DN DD HDL ⊢
 obtain ⟨L, hLL⟩ : ∃ L, c.length = L := ⟨_, rfl⟩
 have HLL := hid hLL
 obtain ⟨NA, hNA⟩ : ∃ L, kA.length = L := ⟨_, rfl⟩
 have HNA := hid hNA
 have HV := hid hv; have HL := hid hL
 obtain ⟨s, cp, rfl, q1, q2, q3⟩ := hv.openZ
 have Q3 := hid q3
 have RG := hid k3; have TH := hid (show -1125899906842624 ≤ thr ∧ thr ≤ 1125899906842624 from ⟨k4, k5⟩); have VA := hid vA; have HN32 := hid hn
 have GLA := hid gLA
 rw [hLL] at k1 k2 q1 HV WS HDL DD ND ⊢
 simp only [hLL] at HQ
 rw [hNA] at nA lA
 have K1 := hid k1; have K2 := hid k2; have NAH := hid nA; have LA100 := hid lA
 obtain ⟨i0, hi, hz0, hz1, hz2⟩ := info_parts info_mass
 have s1 : decide ((n : Int) < 0) = false := by simp
 have s2 : decide ((32 : Int) < (n : Int)) = false := by simp; omega
 obtain ⟨L1, hL1⟩ : ∃ L1, L1 = L + 1 := ⟨_, rfl⟩
 have wl : IntKind.i64.wrap ((L : Int) + 1) = (L1 : Int) := by rw [IntWalk.i64_in _ ⟨by omega, by omega⟩]; omega
 obtain ⟨Mm, hMm⟩ : ∃ M : Int, (n : Int) * (L1 : Int) = M := ⟨_, rfl⟩
 have hM2 : Mm ≤ 256 := by
  rw [← hMm, hL1]
  have : ((n * (L + 1) : Nat) : Int) ≤ 256 := by rw [← hLL]; omega
  rwa [Int.natCast_mul] at this
 have hM0 : 0 ≤ Mm := by rw [← hMm]; exact Int.mul_nonneg (by omega) (by omega)
 have wm : IntKind.i64.wrap ((n : Int) * (L1 : Int)) = Mm := by rw [hMm, IntWalk.i64_in _ ⟨by omega, by omega⟩]
 have s3 : decide (256 < Mm) = false := by simp; omega
 have A1 := hid ((Below.refl w.heap.size w).alloc (Nat.le_refl _) (.cells #[.string a, .string r] 60))
 have X1 := hid (Blk.new w #[.string a, .string r] 60)
 clear hv ha hr hq hn hm hL k3 k4 k5 hga hgr eA eC rA rC zA zC lC vA mA hgA hgC hkA hkC hT hLA hLC gLA hM hP hD1 hD2 hH hF hAF hZ0 hSA hSC hLT hWW hDF hDl hLL hNA q3 hL1 hMm hM2 hM0 k1 k2 nA lA
 go_enter Tryz.func10, Tryz.ntmps10
 go_wp2_with fail
 refine (HQ _ (HV.out.call A1.out) (HL.out.call A1.out).l).out.mono ?_; rintro e w1 ⟨rfl, hb1⟩
 have y1 := hid (bnext A1.out hb1)
 have X2 := hid (X1.out.call hb1)
 clear hb1
 go_wp2_with fail
 obtain ⟨bn, hbn⟩ : ∃ b, w1.heap.size = b := ⟨_, rfl⟩
 have N0 : Hid (NsI w w.heap.size bn a r (.slice none 0 0) (.slice none 0 0) ⟨#[]⟩ ⟨#[]⟩ [] [] ((w1.alloc (.cells #[.slice none 0 0, .slice none 0 0] 64)).alloc (.cells #[.string ⟨#[]⟩, .string ⟨#[]⟩] 60))) := by
  subst hbn
  exact ⟨(X2.out.alloc _).alloc _, (Blk.new w1 _ _).alloc _, Blk.made _ _ _ (by simp), World.ownsRow_nil _ _ _ _, World.ownsRow_nil _ _ _ _, (y1.out.alloc y1.out.size _).alloc (y1.out.alloc y1.out.size (.cells #[.slice none 0 0, .slice none 0 0] 64)).size _⟩
 have GB : Hid (w.heap.size < bn) := by show _ < bn; rw [← hbn]; exact X2.out.lt
 rw [hbn]
 have HBN := hid hbn
 clear hbn
 go_loopw [16, 58, 61] (fun s16 s58 s61 wr => (s58 = .int .i64 0 ∧ Hid (NsI w w.heap.size bn a r (.slice none 0 0) (.slice none 0 0) ⟨#[]⟩ ⟨#[]⟩ [] [] wr)) ∨ (s58 = .int .i64 1 ∧ Hid (∃ u0, NsI w w.heap.size bn a r u0 (.slice none 0 0) SA ⟨#[]⟩ LA [] wr)) ∨ (s58 = .int .i64 2 ∧ Hid (∃ u0 u1, NsI w w.heap.size bn a r u0 u1 SA SC LA LC wr))) (fun s16 s58 s61 wr => 2 - (intOf s58).toNat)
 case atStart => exact .inl ⟨rfl, N0⟩
 case round =>
  rcases hrel with ⟨rfl, hN⟩ | ⟨rfl, hN⟩ | ⟨rfl, hN⟩
  ·have r0 := hN.out.r.cell 0
   simp at r0
   go_wp2_with fail
   refine (PA _ (HL.out.call hN.out.bel)).out.mono ?_; rintro e w3 ⟨⟨u, rfl, hu⟩, hb3⟩
   have N3 := hid (hN.out.call hb3)
   have HUo := hid (own_weakS hu (show bn + 1 + 1 ≤ wr.heap.size from hN.out.s.lt))
   obtain ⟨au, cu, rfl⟩ := own_openP hu
   have m0 := N3.out.n.cell 0
   have m1 := N3.out.n.free 0
   have m2 := (N3.out.s.other (a := ⟨bn, 0, none⟩) (by simp) (.slice au LA.length cu)).cell 0
   have m3 := (N3.out.s.other (a := ⟨bn, 0, none⟩) (by simp) (.slice au LA.length cu)).free 0
   simp at m0 m2
   clear hb3 hu r0
   go_wp2_with fail
   go_roundw
   case rel => exact .inr (.inl ⟨by go_num, hid ⟨_, N3.out.fst (Nat.le_refl _) GB.out HUo.out⟩⟩)
   case measure => simp [intOf]
  ·obtain ⟨u0, hN1⟩ := hN.out
   have r1 := hN1.r.cell 1
   simp at r1
   have HN1 := hid hN1
   clear hN hN1
   go_wp2_with fail
   refine (PC _ (HL.out.call HN1.out.bel)).out.mono ?_; rintro e w3 ⟨⟨u, rfl, hu⟩, hb3⟩
   have N3 := hid (HN1.out.call hb3)
   have HUo := hid (own_weakS hu (show bn + 1 + 1 ≤ wr.heap.size from HN1.out.s.lt))
   obtain ⟨au, cu, rfl⟩ := own_openP hu
   have m0 := N3.out.n.cell 1
   have m1 := N3.out.n.free 1
   have m2 := (N3.out.s.other (a := ⟨bn, 1, none⟩) (by simp) (.slice au LC.length cu)).cell 1
   have m3 := (N3.out.s.other (a := ⟨bn, 1, none⟩) (by simp) (.slice au LC.length cu)).free 1
   simp at m0 m2
   clear hb3 hu r1
   go_wp2_with fail
   go_roundw
   case rel => exact .inr (.inr ⟨by go_num, hid ⟨_, _, N3.out.snd (Nat.le_refl _) GB.out HUo.out⟩⟩)
   case measure => simp [intOf]
  ·obtain ⟨u0, u1, hN2⟩ := hN.out
   obtain ⟨W2, hW2⟩ : ∃ x, x = wr := ⟨_, rfl⟩
   subst hW2
   obtain ⟨a0, c0, rfl⟩ := own_openP hN2.p0
   obtain ⟨a1, c1, rfl⟩ := own_openP hN2.p1
   rw [NAH.out] at hN2
   have HN2 := hid hN2
   have HM1 := make_strsR L (by have := K2.out; omega) W2
   have XT : Hid (Blk (W2.alloc (.cells (madeCells #[.string ⟨#[]⟩] L) 22)) W2.heap.size (strsR (tlS AF L 0)).toArray 22) := by
    show Blk _ _ _ _
    rw [tlS_zero, ← made_strsR]
    exact Blk.new _ _ _
   have BT := hid ((Below.refl W2.heap.size W2).alloc (Nat.le_refl _) (.cells (madeCells #[.string ⟨#[]⟩] L) 22))
   have LB := hid hN2.s.lt
   clear hN hN2
   go_wp2_with fail
   go_loopw [18, 20, 80] (fun s18 s20 s80 wr => ∃ i : Nat, s80 = .int .i64 (i : Nat) ∧ i ≤ L ∧ s18 = .string (AF i) ∧ Hid (Blk wr W2.heap.size (strsR (tlS AF L i)).toArray 22) ∧ Hid (Below W2.heap.size W2 wr)) (fun s18 s20 s80 wr => L - (intOf s80).toNat)
   case atStart => exact ⟨0, rfl, Nat.zero_le _, by rw [HT.out.one], XT, BT⟩
   case round =>
    clear HM1 XT BT
    obtain ⟨i, rfl, hi', rfl, hX, hB⟩ := hrel
    have hl2 := K2.out
    by_cases hlt : i < L
    ·obtain ⟨K, hK⟩ : ∃ K, K = L - 1 - i := ⟨_, rfl⟩
     obtain ⟨P1, hP1⟩ : ∃ P, P = L - 1 := ⟨_, rfl⟩
     have hKL : K < L := by omega
     have wp1 : IntKind.i64.wrap ((L : Int) - 1) = (P1 : Int) := by rw [IntWalk.i64_in _ ⟨by omega, by omega⟩]; omega
     have wp2 : IntKind.i64.wrap ((P1 : Int) - (i : Int)) = (K : Int) := by rw [IntWalk.i64_in _ ⟨by omega, by omega⟩]; omega
     have f0 : (0 : Int) ≤ (K : Int) := by omega
     have f1 : (K : Int) < (L : Int) := by omega
     have wi : IntKind.i64.wrap ((i : Int) + 1) = ((i + 1 : Nat) : Int) := by rw [IntWalk.i64_in _ ⟨by omega, by omega⟩]; omega
     obtain ⟨old, hold⟩ : ∃ s, (tlS AF L i)[K]? = some s := ⟨_, tlS_get hKL⟩
     have m0 : wr.cell? ⟨W2.heap.size, K, none⟩ = some (.string old) := (hX.out.cell K).trans (by rw [List.getElem?_toArray]; exact strsR_get hold)
     have m1 := hX.out.free K
     have N2 := hid (HN2.out.call hB.out)
     have k1 := (N2.out.s.other (a := ⟨W2.heap.size, K, none⟩) (by have := LB.out; simp; omega) (.string (AF i))).cell 1
     simp at k1
     have PAF := fun V hV => hid (HT.out.after V i (by rw [HLL.out]; exact hlt) hV)
     have hnx := tlS_next (AF := AF) hlt
     rw [← hK] at hnx
     have YB := hX.out.set K (.string (AF i))
     rw [strsR_set, hnx] at YB
     have YB := hid YB
     have BB := hid (hB.out.setCell (p := ⟨W2.heap.size, K, none⟩) (Nat.le_refl _) (.string (AF i)))
     obtain ⟨F0, hF0⟩ : ∃ s, AF i = s := ⟨_, rfl⟩
     obtain ⟨F1, hF1⟩ : ∃ s, AF (i + 1) = s := ⟨_, rfl⟩
     rw [hF0] at k1 YB BB ⊢
     simp only [hF0, hF1] at PAF
     have HF1 := hid hF1; have HLT := hid hlt
     clear hK hP1 hKL hold hnx hF0 hF1 hlt hi' hl2
     go_wp2_with fail
     refine (PAF _ (HL.out.call (bnext HN2.out.bel BB.out)).l).out.mono ?_; rintro e w5 ⟨rfl, hb5⟩
     have Y5 := hid (YB.out.call hb5); have B5 := hid (bnext BB.out hb5)
     clear hb5
     go_wp2_with fail
     go_roundw
     case rel => exact ⟨i + 1, by go_num, HLT.out, by rw [HF1.out], Y5, B5⟩
     case measure => simp [intOf] <;> (have := HLT.out; omega)
    ·obtain rfl : L = i := by omega
     have q1 : decide ((L : Int) < (L : Int)) = false := by simp
     obtain ⟨V0, hV0⟩ : ∃ V, V = wr.alloc (.cells #[.string ⟨#[48]⟩] 22) := ⟨_, rfl⟩
     obtain ⟨bf, hbf⟩ : ∃ b, V0.heap.size = b := ⟨_, rfl⟩
     have HSR := s_Repeat V0 wr.heap.size L ⟨#[48]⟩ K1.out (by omega) (by rw [hV0]; simp)
     rw [hbf] at HSR
     have HBF := hid hbf
     have BV : Below wr.heap.size wr V0 := by rw [hV0]; exact (Below.refl _ _).alloc (Nat.le_refl _) _
     have NV := hid ((HN2.out.call hB.out).call BV)
     have TV := hid (hX.out.call BV)
     have BW2 := hid (bnext hB.out BV)
     obtain ⟨FL, hFL⟩ : ∃ s, AF L = s := ⟨_, rfl⟩
     have HFL := hid hFL
     have HSR := hid HSR
     rw [hFL]
     clear hlt hi' hl2 hbf BV hX hB hFL
     go_wp2_with fail
     rw [← hV0]
     refine HSR.out.mono ?_; rintro e w6 ⟨rfl, hblk, hb6⟩
     have X6 : Hid (Blk w6 bf (strsR (fnS F L 0 0)).toArray 22) := by
      show Blk _ _ _ _
      rw [fnS_zero L HT.out.zero]
      exact hblk
     have B6 : Hid (Below V0.heap.size V0 w6) := by show Below _ _ _; rw [HBF.out]; exact hb6
     have c6 := (NV.out.n.call B6.out).cell 0
     simp at c6
     clear hblk hb6 hV0 HSR
     go_wp2_with fail
     go_loopw [22, 24, 25, 26, 27, 28, 103] (fun s22 s24 s25 s26 s27 s28 s103 wr => ∃ j : Nat, s103 = .int .i64 (j : Nat) ∧ j ≤ NA ∧ s22 = .string (F L j) ∧ Hid (Blk wr bf (strsR (fnS F L j 0)).toArray 22) ∧ Hid (Below V0.heap.size V0 wr)) (fun s22 s24 s25 s26 s27 s28 s103 wr => NA - (intOf s103).toNat)
     case atStart => exact ⟨0, rfl, Nat.zero_le _, by rw [HT.out.zero], X6, B6⟩
     case round =>
      clear c6 X6 B6
      obtain ⟨j, rfl, hj', rfl, hX, hB⟩ := hrel
      obtain ⟨W4, hW4⟩ : ∃ x, x = wr := ⟨_, rfl⟩
      subst hW4
      have N4 := hid (NV.out.call hB.out)
      have hna := LA100.out
      by_cases hlt : j < NA
      ·obtain ⟨xv, hxv⟩ : ∃ x, kA[j]? = some x := ⟨_, List.getElem?_eq_getElem (by rw [HNA.out]; exact hlt)⟩
       have hla := GLA.out j xv hxv
       have hxb := VA.out xv (List.mem_of_getElem? hxv)
       obtain ⟨ap, cp2, e2, -, -, hcell⟩ := (PRow.of_owns N4.out.p0).ex
       simp only [Value.slice.injEq] at e2
       obtain ⟨rfl, -, rfl⟩ := e2
       obtain ⟨gd, od, rfl, hgd, m1, m2⟩ := hcell j _ hla
       dsimp only at m1 m2
       rw [← HT.out.start xv] at m2
       obtain ⟨Px, hPx⟩ : ∃ f, P xv = f := ⟨_, rfl⟩
       have TLESS := fun (V : World) (i : Nat) (hi : i < c.length) (hV : Lay V) => hid (HT.out.less V xv i hi hV)
       have TTM1 := fun (V : World) (i : Nat) (hi : i < c.length) (hV : Lay V) => hid (HT.out.times1 V xv i hi hV)
       have TTM2 := fun (V : World) (i : Nat) (hi : i < c.length) (hV : Lay V) => hid (HT.out.times2 V xv i hi hV)
       have TPLU := fun (V : World) (i : Nat) (hi : i < c.length) (hV : Lay V) => hid (HT.out.plus V xv i j hi hxv hV)
       have TNXT := fun (V : World) (i : Nat) (hi : i < c.length) (hV : Lay V) => hid (HT.out.next V xv i hi hV)
       have TNON := fun (V : World) (hV : Lay V) => hid (HT.out.none V xv j hxv hV)
       obtain ⟨d1, hd1⟩ : ∃ f, D1 xv = f := ⟨_, rfl⟩
       obtain ⟨d2, hd2⟩ : ∃ f, D2 xv = f := ⟨_, rfl⟩
       obtain ⟨hx, hhx⟩ : ∃ f, H xv = f := ⟨_, rfl⟩
       rw [hPx] at m2
       simp only [hPx, hd1, hd2, hhx] at TLESS TTM1 TTM2 TPLU TNXT TNON
       rw [HLL.out] at TLESS TTM1 TTM2 TPLU TNXT TNON
       have HXB := hid hxb; have HJT := hid hlt
       have f1 : (0 : Int) ≤ (j : Int) := by omega
       have f2 : (j : Int) < (NA : Int) := by omega
       have wj : IntKind.i64.wrap ((j : Int) + 1) = ((j + 1 : Nat) : Int) := by rw [IntWalk.i64_in _ ⟨by omega, by omega⟩]; omega
       have AM := hid ((Below.refl W4.heap.size W4).alloc (Nat.le_refl _) (.cells #[.int .i64 xv, .string (Px 0)] 68))
       have XM := hid (Blk.new W4 #[.int .i64 xv, .string (Px 0)] 68)
       have X4 := hid (hX.out.call AM.out)
       have B4 := hid (bnext hB.out AM.out)
       have BF4 := hid (show bf < W4.heap.size from hX.out.lt)
       obtain ⟨b24, hb24⟩ : ∃ b, W4.heap.size = b := ⟨_, rfl⟩
       rw [hb24] at XM BF4
       have HB24 := hid hb24
       have g0 := XM.out.cell 0
       have g1 := XM.out.cell 1
       simp at g0 g1
       clear hxv hla hxb hcell hgd hPx hd1 hd2 hhx hlt hj' hna hX N4
       go_wp2_with fail
       go_loopw [25, 26, 27, 28, 111] (fun s25 s26 s27 s28 s111 wr => ∃ i : Nat, s111 = .int .i64 (i : Nat) ∧ i ≤ L ∧ s25 = .string (Px i) ∧ Hid (Blk wr bf (strsR (fnS F L j i)).toArray 22) ∧ Hid (Blk wr b24 #[.int .i64 xv, .string (Px 0)] 68) ∧ Hid (Below V0.heap.size V0 wr)) (fun s25 s26 s27 s28 s111 wr => L - (intOf s111).toNat)
       case atStart => exact ⟨0, rfl, Nat.zero_le _, rfl, X4, XM, B4⟩
       case round =>
        clear X4 XM B4 AM g0 g1 hb24
        obtain ⟨i, rfl, hi', rfl, hX, hXB, hB⟩ := hrel
        have hl2 := K2.out
        by_cases hlt : i < L
        ·obtain ⟨ci, hci⟩ : ∃ x, c[i]? = some x := ⟨_, List.getElem?_eq_getElem (by rw [HLL.out]; exact hlt)⟩
         have hcd : c.getD i 0 = ci := by rw [List.getD_eq_getElem?_getD, hci]; rfl
         obtain ⟨gc, oc, rfl, hgc, hcc⟩ := Q3.out i ci hci
         have hN := NV.out.call hB.out
         have r1 := (hN.bel.cell (p := ⟨gc, oc + i, none⟩) hgc).trans hcc
         have x0 := hXB.out.cell 0
         simp at x0
         have hrg := RG.out ci (List.mem_of_getElem? hci)
         have hth := TH.out
         have hxb := HXB.out
         have hn32 := HN32.out
         have wa : IntKind.i64.wrap (thr + xv) = thr + xv := by rw [IntWalk.i64_in _ ⟨by omega, by omega⟩]
         obtain ⟨G, hG⟩ : ∃ G, thr + xv - ci = G := ⟨_, rfl⟩
         have wg : IntKind.i64.wrap (thr + xv - ci) = G := by rw [hG, IntWalk.i64_in _ ⟨by omega, by omega⟩]
         have f3 : (0 : Int) ≤ (i : Int) := by omega
         have f4 : (i : Int) < (L : Int) := by omega
         have wi : IntKind.i64.wrap ((i : Int) + 1) = ((i + 1 : Nat) : Int) := by rw [IntWalk.i64_in _ ⟨by omega, by omega⟩]; omega
         have PBi := PB.out wr bn _ G (hN.n.cell 1) (PRow.of_owns hN.p1) (HL.out.call hN.bel).l
         have PL1 := fun V hV => TLESS V i hlt hV
         have PT1 := fun V hV => TTM1 V i hlt hV
         have PT2 := fun V hV => TTM2 V i hlt hV
         have PPL := fun V hV => TPLU V i hlt hV
         have PNX := fun V hV => TNXT V i hlt hV
         rw [hcd, hG] at PL1 PNX
         obtain ⟨Mg, hMg⟩ : ∃ s, M G = s := ⟨_, rfl⟩
         rw [hMg] at PBi PL1 PNX
         obtain ⟨p0, hp0⟩ : ∃ s, Px i = s := ⟨_, rfl⟩
         obtain ⟨p1, hp1⟩ : ∃ s, Px (i + 1) = s := ⟨_, rfl⟩
         obtain ⟨e1, he1⟩ : ∃ s, d1 i = s := ⟨_, rfl⟩
         obtain ⟨e2, he2⟩ : ∃ s, d2 i = s := ⟨_, rfl⟩
         obtain ⟨e3, he3⟩ : ∃ s, hx i = s := ⟨_, rfl⟩
         obtain ⟨e4, he4⟩ : ∃ s, AF (L - 1 - i) = s := ⟨_, rfl⟩
         obtain ⟨e5, he5⟩ : ∃ s, F i j = s := ⟨_, rfl⟩
         obtain ⟨e6, he6⟩ : ∃ s, F i (j + 1) = s := ⟨_, rfl⟩
         rw [he1] at PL1
         rw [hp0, he1, he2] at PT1
         rw [he2, he4, he3] at PT2
         rw [he5, he3, he6] at PPL
         rw [hp0, hp1] at PNX
         rw [hp0]
         have hfi := fnS_at (F := F) (j := j) hlt
         rw [he5] at hfi
         have hnx := fnS_next (F := F) (j := j) hlt
         rw [he6] at hnx
         have htl := tlS_end (AF := AF) hlt
         rw [he4] at htl
         have HNX := hid hnx; have HFI := hid hfi; have HTL := hid htl; have HLT := hid hlt; have HP1 := hid hp1
         have PBi := hid PBi
         clear hci hcd hgc hcc hN hrg hth hxb hn32 hG hMg hp0 hp1 he1 he2 he3 he4 he5 he6 hfi hnx htl hlt hi' hl2
         go_wp2_with fail
         refine PBi.out.mono ?_; rintro e w5 ⟨rfl, hb5⟩
         have X5 := hid (hX.out.call hb5); have XB5 := hid (hXB.out.call hb5); have B5 := hid (bnext hB.out hb5)
         have KK : Hid (∀ V, Below w5.heap.size w5 V → V.cell? ⟨bf, i, none⟩ = some (.string e5) ∧ V.cell? ⟨bn + 1, 1, none⟩ = some (.string SC) ∧ V.cell? ⟨W2.heap.size, i, none⟩ = some (.string e4)) := fun V hV => by
          refine ⟨((X5.out.call hV).cell i).trans ?_, ?_, ((TV.out.call (bnext B5.out hV)).cell i).trans ?_⟩
          ·rw [List.getElem?_toArray]; exact strsR_get HFI.out
          ·have := (NV.out.call (bnext B5.out hV)).s.cell 1
           simpa using this
          ·rw [List.getElem?_toArray]; exact strsR_get HTL.out
         clear hb5 r1 x0 PBi
         go_wp2_with fail
         refine held_lasts 18 2 [0, 1, 2, 3, 4, 5, 6, 7, 8, 9, 12, 13, 14, 15] 4 (fun V => V.cell? ⟨bf, i, none⟩ = some (.string e5) ∧ V.cell? ⟨bn + 1, 1, none⟩ = some (.string SC) ∧ V.cell? ⟨W2.heap.size, i, none⟩ = some (.string e4)) (by kernel_rfl) rfl (by kernel_rfl) (by kernel_rfl) (by kernel_rfl) (by kernel_rfl) (KK.out _ (Below.refl _ _).drew) ?_
         iterate 14
          refine ⟨_, rfl, ?_⟩
          apply Exists.intro
          refine ⟨.inl ⟨by rfl, ?_⟩, ?_⟩
          ·(intro W' hW'; obtain ⟨z1, z2, z3⟩ := hW'; go_simp; try (with_reducible rfl))
          (dsimp only [Act.put]; try simp only [List.setIfInBounds_toArray, List.set_cons_zero, List.set_cons_succ])
         have LY := hid (HL.out.call (bnext NV.out.bel B5.out))
         refine held_one (i := 10) (by kernel_rfl) (by rfl) (by rfl) ?_
         go_wp2_with fail
         refine (PL1 _ (LY.out.call (Below.refl _ _).drew).l).out.mono ?_; rintro e w6 ⟨rfl, hb6⟩
         have y6 := hid (show Below w5.heap.size w5 w6 from (Below.refl _ _).drew.trans hb6)
         clear hb6
         go_wp2_with fail
         refine ⟨KK.out _ y6.out, ?_⟩
         refine held_one (i := 11) (by kernel_rfl) (by rfl) (by rfl) ?_
         go_wp2_with fail
         refine (PT1 _ (LY.out.call y6.out).l).out.mono ?_; rintro e w7 ⟨rfl, hb7⟩
         have y7 := hid (bnext y6.out hb7)
         clear hb7
         go_wp2_with fail
         refine ⟨KK.out _ y7.out, ?_⟩
         refine held_one (i := 16) (by kernel_rfl) (by rfl) (by rfl) ?_
         go_wp2_with fail
         refine (PT2 _ (LY.out.call y7.out).l).out.mono ?_; rintro e w8 ⟨rfl, hb8⟩
         have y8 := hid (bnext y7.out hb8)
         clear hb8
         go_wp2_with fail
         refine ⟨KK.out _ y8.out, ?_⟩
         refine held_one (i := 17) (by kernel_rfl) (by rfl) (by rfl) ?_
         go_wp2_with fail
         refine (PPL _ (LY.out.call y8.out).l).out.mono ?_; rintro e w9 ⟨rfl, hb9⟩
         have y9 := hid (bnext y8.out hb9)
         clear hb9
         go_wp2_with fail
         refine ⟨KK.out _ y9.out, ?_⟩
         refine wpAnyH_done (by kernel_rfl) ?_ _
         simp only [Only, ThenL, List.drop_succ_cons, List.drop_zero]
         have kf := (X5.out.call y9.out).free i
         have kc := (KK.out _ y9.out).1
         have X9 := (X5.out.call y9.out).set i (.string e6)
         rw [strsR_set, HNX.out] at X9
         have X9 := hid X9
         have XB9 := hid ((XB5.out.call y9.out).other (a := ⟨bf, i, none⟩) (by have := BF4.out; simp; omega) (.string e6))
         have B9 := hid ((bnext B5.out y9.out).setCell (p := ⟨bf, i, none⟩) (Nat.le_of_eq HBF.out) (.string e6))
         go_wp2_with fail
         try simp only [Only]
         refine (PNX _ (HL.out.call (bnext NV.out.bel B9.out)).l).out.mono ?_; rintro e w10 ⟨rfl, hb10⟩
         have X10 := hid (X9.out.call hb10); have XB10 := hid (XB9.out.call hb10); have B10 := hid (bnext B9.out hb10)
         clear hb10 kf kc
         go_wp2_with fail
         go_roundw
         case rel => exact ⟨i + 1, by go_num, HLT.out, by rw [HP1.out], X10, XB10, B10⟩
         case measure => simp [intOf] <;> (have := HLT.out; omega)
        ·obtain rfl : L = i := by omega
         have q1 : decide ((L : Int) < (L : Int)) = false := by simp
         have PNi := fun V hV => TNON V hV
         obtain ⟨n0, hn0⟩ : ∃ s, F L j = s := ⟨_, rfl⟩
         obtain ⟨n1, hn1⟩ : ∃ s, F L (j + 1) = s := ⟨_, rfl⟩
         obtain ⟨pl, hpl⟩ : ∃ s, Px L = s := ⟨_, rfl⟩
         rw [hn0, hpl, hn1] at PNi
         rw [hn0, hpl]
         have HN1 := hid hn1
         clear hlt hi' hl2 hn0 hn1 hpl
         go_wp2_with fail
         refine (PNi _ (HL.out.call (bnext NV.out.bel hB.out)).l).out.mono ?_; rintro e w10 ⟨rfl, hb10⟩
         have X10 := hid (hX.out.call hb10); have B10 := hid (bnext hB.out hb10)
         clear hb10
         go_wp2_with fail
         go_roundw
         case rel => exact ⟨j + 1, by go_num, HJT.out, by rw [HN1.out], hid (by rw [← fnS_row]; exact X10.out), B10⟩
         case measure => simp [intOf] <;> (have := HJT.out; omega)
      ·obtain rfl : NA = j := by omega
       have q1 : decide ((NA : Int) < (NA : Int)) = false := by simp
       have k0 := N4.out.s.cell 0
       simp at k0
       have P1 := fun V hV => hid (HT.out.last1 V hV)
       have P2 := fun V hV => hid (HT.out.last2 V hV)
       rw [HLL.out, HFL.out] at P1
       obtain ⟨nn, hnn⟩ : ∃ s, F L NA = s := ⟨_, rfl⟩
       have HNN := hid hnn
       rw [hnn]
       clear hlt hj' hnn hna
       go_wp2_with fail
       refine (P1 _ (HL.out.call N4.out.bel).l).out.mono ?_; rintro e w10 ⟨rfl, hb10⟩
       have B10 := hid (bnext hB.out hb10)
       have X10 := hid (hX.out.call hb10)
       clear hb10 k0
       go_wp2_with fail
       refine (P2 _ (HL.out.call (bnext NV.out.bel B10.out)).l).out.mono ?_; rintro e w11 ⟨rfl, hb11⟩
       have B11 := hid (bnext B10.out hb11)
       have X11 := hid (X10.out.call hb11)
       have O0 : Hid ((w11.alloc (.cells #[.string ⟨#[45, 49]⟩, .string nn, .string ⟨#[108, 97, 116, 101]⟩, .string LT] 39)).ownsRow w11.heap.size 39 2 (.slice (some ⟨w11.heap.size, 0, none⟩) 2 2) 2 (massC (WW 0))) := by
        have h := World.ownsRow_lit (e := 39) (size := 2) (base := w11.heap.size) w11 #[.string ⟨#[45, 49]⟩, .string nn, .string ⟨#[108, 97, 116, 101]⟩, .string LT] 2 (Nat.le_refl _) (by unfold maxLen; omega) rfl
        have e0 := W0.out
        rw [HLL.out, HNA.out, HNN.out] at e0
        rw [e0]
        exact h
       have A11 := hid ((Below.refl w11.heap.size w11).alloc (Nat.le_refl _) (.cells #[.string ⟨#[45, 49]⟩, .string nn, .string ⟨#[108, 97, 116, 101]⟩, .string LT] 39))
       have LW := hid (bnext NV.out.bel B11.out)
       clear hb11
       go_wp2_with fail
       go_loopw [30, 31, 32, 163] (fun s30 s31 s32 s163 wr => ∃ i : Nat, s163 = .int .i64 (i : Nat) ∧ i ≤ L ∧ Hid (wr.ownsRow w11.heap.size 39 2 s30 (i + 2) (massC (WW i))) ∧ Hid (Below w11.heap.size w11 wr)) (fun s30 s31 s32 s163 wr => L - (intOf s163).toNat)
       case atStart => exact ⟨0, rfl, Nat.zero_le _, O0, A11⟩
       case round =>
        clear O0 A11
        obtain ⟨i, rfl, hi', hO, hB5⟩ := hrel
        obtain ⟨ad, cd, rfl⟩ := owns_ex hO.out
        have hl2 := K2.out
        by_cases hlt : i < L
        ·have hfi : (fnS F L NA 0)[i]? = some (F i NA) := by rw [fnS_get hlt, if_neg (by omega)]
         obtain ⟨fi, hfe⟩ : ∃ s, F i NA = s := ⟨_, rfl⟩
         rw [hfe] at hfi
         have r1 : wr.cell? ⟨bf, i, none⟩ = some (.string fi) := ((X11.out.call hB5.out).cell i).trans (by rw [List.getElem?_toArray]; exact strsR_get hfi)
         have PI := fun V hV => hid (s_Itoa V i (by omega) hV)
         have WSi := WS.out i (Nat.le_of_lt hlt)
         obtain ⟨I, hIi⟩ : ∃ s, numB i = s := ⟨_, rfl⟩
         rw [HNA.out, hIi, hfe] at WSi
         rw [hIi] at PI
         have HWS := hid WSi; have HLT := hid hlt
         have f3 : (0 : Int) ≤ (i : Int) := by omega
         have f4 : (i : Int) < (L : Int) := by omega
         have wi : IntKind.i64.wrap ((i : Int) + 1) = ((i + 1 : Nat) : Int) := by rw [IntWalk.i64_in _ ⟨by omega, by omega⟩]; omega
         clear hfi hfe hIi WSi hlt hi' hl2
         go_wp2_with fail
         refine (PI _ (HL.out.call (bnext LW.out hB5.out)).l).out.mono ?_; rintro e w12 ⟨rfl, hb12⟩
         have O12 := hid (owns_call hO.out hb12); have B12 := hid (bnext hB5.out hb12)
         have b3 := B12.out.size
         clear hb12 r1
         go_wp2_with (at_builtin; refine wpList_append_own _ rfl _ _ 26 rfl w11.heap.size 39 i0 (.agg #[.string ⟨#[]⟩, .string ⟨#[]⟩]) 2 32 Tryz.underlying26 hi hz0 hz1 hz2 rfl (by decide) _ (i + 2) _ rfl (O12.out.alloc _) ⟨w12.heap.size, 0, none⟩ 1 1 [.string I, .string fi] rfl rfl (cell_two_new w12 (.string I) (.string fi) 39) (by simp [Value.oneCell']) (by have := HLT.out; have := K2.out; unfold maxLen; omega) (by have := HLT.out; have := K2.out; omega) (by simp; omega) ?_
                      intro v' w13 hown hgrow _
                      have B13 := hid (owned_below (O12.out.alloc _) (B12.out.alloc B12.out.size (.cells #[.string I, .string fi] 39)) hgrow)
                      have O13 := hid hown
                      clear hown hgrow)
         go_roundw
         case rel => exact ⟨i + 1, by go_num, HLT.out, hid (by rw [HWS.out, massC_append]; exact O13.out), B13⟩
         case measure => simp [intOf] <;> (have := HLT.out; omega)
        ·obtain rfl : L = i := by omega
         have q1 : decide ((L : Int) < (L : Int)) = false := by simp
         have O5 := hO.out
         obtain ⟨gd, cap, e5, hgB, hglt⟩ := O5.form (Nat.succ_pos (L + 1))
         simp only [Value.slice.injEq, true_and] at e5
         obtain ⟨rfl, rfl⟩ := e5
         have hFWl : (WW L).length = L + 2 := by have := O5.1; rw [massC_length] at this; omega
         have PD := hid (s_DelM wr 40 (fun x => !notZ x) gd cd w11.heap.size (L + 2) (WW L) O5 hFWl (by omega) hB5.out.size (enters_of Tryz.func40 (by kernel_rfl) rfl) (fun W x => sp_isZ W x))
         rw [← DD.out] at PD
         have Y1 := hid LW.out.size
         have BW := hid (bnext LW.out hB5.out)
         clear hlt hi' hO O5 hgB hglt hFWl hl2
         go_wp2_with fail
         refine PD.out.mono ?_; rintro e w6 ⟨⟨m, hm, rfl, O6⟩, hb6⟩
         have B6 := hid (BW.out.trans (hb6.mono Y1.out))
         rcases O6.2 with ⟨e1, _⟩ | ⟨g', cap', cur, e1, hgb, hgh, h1, h2, h3, h4⟩
         ·simp at e1
         simp only [Value.slice.injEq, Option.some.injEq, Addr.mk.injEq, and_true, true_and] at e1
         obtain ⟨rfl, rfl⟩ := e1
         have hdl := HDL.out
         have hk2 := K2.out
         have hSM := s_SortM 42 gd cd w11.heap.size DF.toArray w6 cur hgb hgh (by simp; omega) h2 h3 (by simp; rw [← hm]; exact h4) (by simp; omega) (by simpa using DN.out) (enters_of Tryz.func42 (by kernel_rfl) rfl) (fun x y W => sp_order x y W)
         simp only [List.size_toArray] at hSM
         rw [← hm] at hSM
         have HSM := hid hSM
         clear hSM h1 h2 h3 h4 hgh hdl hk2 O6 hb6 PD hm
         go_wp2_with fail
         refine HSM.out.mono ?_; rintro e w8 ⟨rfl, ho8, hb8⟩
         have B8 := hid (B6.out.trans (hb8.mono Y1.out))
         have M8 := hid (MRow.of_owns ho8)
         clear ho8 hb8
         go_wp2_with fail
         go_ret2
         exact ⟨⟨_, rfl, M8.out⟩, B8.out⟩
end Go.Proofs.YtlmnpocifldpmaaGreatDoor
namespace Go.Proofs.YtlmnpocifldpmaaGreatDoor
open Go.RowKit
open Go.Shelf
open Go.Lib (decDigits nDigits)
theorem sp_words (w : World) (v : Value) (l : List ByteArray) (m : Int) (h : Row w v (strs l)) (hsz : ∀ b ∈ l, b.size ≤ 100000000) :
 Calls Tryz.prog 45 #[v, .int .i64 m] w fun e w' => e = .returned (.int .i64 (wdE l m)) ∧ Below w.heap.size w w' := by
 obtain ⟨a, c, rfl, h1, h2, h3⟩ := h.openS
 obtain ⟨n, hn⟩ : ∃ n, l.length = n := ⟨_, rfl⟩
 unfold wdE
 rw [hn] at h1 ⊢
 by_cases hm : (n : Int) = m
 ·rw [if_pos hm]
  have H3 := hid h3; have HN := hid hn; have HSZ := hid hsz
  have q0 : ((n : Int) == m) = true := by rw [beq_iff_eq]; exact hm
  obtain ⟨X, hX⟩ : ∃ X : Int, bsE l = X := ⟨_, rfl⟩
  have HX := hid hX
  rw [hX]
  subst hm
  clear h h3 hn hX hsz q0
  go_enter Tryz.func45, Tryz.ntmps45
  go_wp2_with fail
  go_loopw [14] (fun ii wr => ∃ i : Nat, ii = .int .i64 i ∧ i ≤ n ∧ Hid (∀ (j : Nat) (b : ByteArray), j < i → l[j]? = some b → chkE b = 0) ∧ Hid (Below w.heap.size w wr)) (fun ii wr => n - (intOf ii).toNat)
  case atStart => exact ⟨0, rfl, Nat.zero_le _, fun j b hj => absurd hj (by omega), Below.refl _ _⟩
  case round =>
   obtain ⟨i, rfl, hi, hI, hB⟩ := hrel
   by_cases hlt : i < n
   ·obtain ⟨x, hx⟩ : ∃ x, l[i]? = some x := ⟨_, List.getElem?_eq_getElem (by rw [HN.out]; exact hlt)⟩
    obtain ⟨g, o, rfl, hg, hc⟩ := H3.out i x hx
    have d0 := (hB.out.cell (p := ⟨g, o + i, none⟩) hg).trans hc
    have b1 : (0 : Int) ≤ (i : Int) := by omega
    have b2 : (i : Int) < (n : Int) := by omega
    have wi : IntKind.i64.wrap ((i : Int) + 1) = (i : Int) + 1 := by rw [IntWalk.i64_in _ ⟨by omega, by omega⟩]
    have PN := fun W => hid (b_Check W x (HSZ.out x (List.mem_of_getElem? hx)))
    have hce := chkE_err x
    obtain ⟨y, hy⟩ : ∃ y, bitE x = y := ⟨_, rfl⟩
    rw [hy] at PN hce
    have HXX := hid hx; have HC := hid hce
    have hdrop : l.drop i = x :: l.drop (i + 1) := by
     have hil : i < l.length := by rw [HN.out]; exact hlt
     rw [List.drop_eq_getElem_cons hil]
     have := List.getElem?_eq_getElem hil
     rw [hx] at this
     rw [Option.some.inj this]
    have HD := hid hdrop
    clear hx hy hc hdrop hce
    by_cases hy0 : y = 0
    ·subst hy0
     by_cases hl : 256 < x.size
     ·have q2 : decide ((256 : Int) < (x.size : Int)) = true := by simp; omega
      have HE : Hid (X = 4) := by
       show X = 4
       have e : chkE x = 4 := by rw [HC.out, if_neg (by simp), if_pos hl]
       rw [← HX.out, bsE_at hI.out, HD.out, bsE, e, if_pos (by decide)]
      clear hl
      go_wp2_with fail
      refine (PN _).out.mono ?_; rintro e w1 ⟨rfl, hb1⟩
      have y1 := hid (bnext hB.out hb1); clear hb1
      go_wp2_with fail
      go_ret
      exact ⟨by rw [HE.out]; rfl, y1.out⟩
     ·have q2 : decide ((256 : Int) < (x.size : Int)) = false := by simp; omega
      have HE : Hid (chkE x = 0) := by
       show chkE x = 0
       rw [HC.out, if_neg (by simp), if_neg hl]
      clear hl
      go_wp2_with fail
      refine (PN _).out.mono ?_; rintro e w1 ⟨rfl, hb1⟩
      have y1 := hid (bnext hB.out hb1); clear hb1
      go_wp2_with fail
      go_roundw
      case rel => exact ⟨i + 1, rfl, by omega, fun j b hj hjb => by
       by_cases e : j = i
       ·subst e; rw [HXX.out] at hjb; cases hjb; exact HE.out
       ·exact hI.out j b (by omega) hjb, y1.out⟩
      case measure => simp [intOf] <;> omega
    ·have q3 : (y == 0) = false := by rw [beq_eq_false_iff_ne]; exact hy0
     have HE : Hid (X = y) := by
      show X = y
      have e : chkE x = y := by rw [HC.out, if_pos hy0]
      rw [← HX.out, bsE_at hI.out, HD.out, bsE, e, if_pos hy0]
     clear hy0
     go_wp2_with fail
     refine (PN _).out.mono ?_; rintro e w1 ⟨rfl, hb1⟩
     have y1 := hid (bnext hB.out hb1); clear hb1
     go_wp2_with fail
     go_ret
     exact ⟨by rw [HE.out]; rfl, y1.out⟩
   ·obtain rfl : i = n := by omega
    have HE : Hid (X = 0) := by
     show X = 0
     have hd : l.drop i = [] := List.drop_eq_nil_of_le (by rw [HN.out]; exact Nat.le_refl _)
     rw [← HX.out, bsE_at hI.out, hd]; rfl
    go_wp2_with fail
    go_ret
    exact ⟨by rw [HE.out]; rfl, hB.out⟩
 ·rw [if_neg hm]
  have q0 : ((n : Int) == m) = false := by rw [beq_eq_false_iff_ne]; exact hm
  clear h h3 hn hsz hm
  go_enter Tryz.func45, Tryz.ntmps45
  go_wp2_with fail
  go_ret
  exact ⟨rfl, Below.refl _ _⟩
end Go.Proofs.YtlmnpocifldpmaaGreatDoor
namespace Go.Proofs.YtlmnpocifldpmaaGreatDoor
open Go.RowKit
open Go.Shelf
attribute [local go_sem] Oper.semAt_some
structure KpC (n0 : Nat) (W W' : World) : Prop where
 size : W.heap.size ≤ W'.heap.size
 rest : n0 ≤ W.heap.size → Below n0 W W'
theorem KpC.refl (n0 : Nat) (W : World) : KpC n0 W W := ⟨Nat.le_refl _, fun _ => Below.refl _ _⟩
theorem KpC.trans {n0 : Nat} {A B C : World} (h : KpC n0 A B) (k : KpC n0 B C) : KpC n0 A C := ⟨Nat.le_trans h.size k.size, fun h1 => (h.rest h1).trans (k.rest (Nat.le_trans h1 h.size))⟩
theorem KpC.of_below {n0 : Nat} {W W' : World} (h : Below W.heap.size W W') : KpC n0 W W' := ⟨h.size, fun h1 => h.mono h1⟩
theorem KpC.put {n0 : Nat} {w : World} (h1 : n0 ≤ w.heap.size) (W : World) (l : Nat) (o o' : Obj) (hl : w.heap.size ≤ l) (h : W.heap[l]? = some o) (hc : o.isCells = false) (hw : o.isWalk = false) : KpC n0 W (W.putObj l o') := by
 have hs : W.heap.size ≤ (W.putObj l o').heap.size := by simp [World.putObj]
 exact ⟨hs, fun _ => ⟨rfl, rfl, rfl, hs, fun k hk => World.putObj_heap_other (by omega)⟩⟩
open Go.Lib (decDigits nDigits)
attribute [local go_sem] Oper.semAt_some
theorem sp_hits (w : World) (s : Option Addr) (n k : Nat) (m : Int) :
 Calls Tryz.prog 48 #[.slice s n k, .int .i64 m] w fun e w' => e = .returned (.func (.func 105) #[] #[.pointer (some ⟨w.heap.size, 0, none⟩), .pointer (some ⟨w.heap.size + 1, 0, none⟩)]) ∧ w' = (w.alloc (.cells #[.slice s n k] 24)).alloc (.cells #[.int .i64 m] 3) := by
 go_enter Tryz.func48, Tryz.ntmps48
 go_wp2_with fail
 go_ret
 exact ⟨rfl, rfl⟩
def hOk (t : Int) (l : List Int) (pre : List Int) (x : Int) : Prop := pre = [] → x = (hitI t l : Nat) ∧ hitI t l < l.length
def hEnd (t : Int) (l : List Int) (xs : List Int) : Prop := xs = [] → hitI t l = l.length
theorem hits_feeds {Kp : World → World → Prop} (n : Nat) (hn : 1 ≤ n) (w : World) (bl bm : Nat) (v : Value) (c : List Int) (m : Int) (hcl : c.length ≤ 256)
 (hKr : ∀ W, Kp W W) (hKt : ∀ {A B C : World}, Kp A B → Kp B C → Kp A C)
 (hread : ∀ W1 W2, Below w.heap.size w W1 → Kp W1 W2 → W2.cell? ⟨bl, 0, none⟩ = some v ∧ W2.cell? ⟨bm, 0, none⟩ = some (.int .i64 m) ∧ Row W2 v (zs c)) (hKb : ∀ W1 W2, Below W1.heap.size W1 W2 → Kp W1 W2) :
 Feeds n Tryz.prog 105 #[.pointer (some ⟨bl, 0, none⟩), .pointer (some ⟨bm, 0, none⟩)] (fun x : Int => #[.int .i64 x]) Kp (hOk m c) (hEnd m c) (fun _ => True) w := by
 intro l J Jx W hW hJ hJx hY h0
 have HR := hid hread; have HY := hid hY; have HW := hid hW; have HJ := hid hJ; have HJx := hid hJx
 have HKr := hid hKr; have HKt : Hid (∀ A B C : World, Kp A B → Kp B C → Kp A C) := fun A B C h k => hKt h k
 have HKb := hid hKb
 obtain ⟨c0, -, r0⟩ := hread W W hW (hKr W)
 obtain ⟨s, cp, rfl, q1, q2, -⟩ := r0.openZ
 obtain ⟨N, hN⟩ : ∃ N, c.length = N := ⟨_, rfl⟩
 have HN := hid hN
 rw [hN] at HR c0 q1 hcl
 clear hread hY hW hJ hJx hKr hKt hKb r0 hN
 refine callsIn_of_wp Tryz.func105 rfl trivial ?_ rfl
 simp only [Tryz.ntmps105, List.size_toArray, List.length_cons, List.length_nil, Nat.reduceAdd, Nat.reduceSub, Array.replicate_succ, Array.replicate_zero, List.push_toArray, List.append_toArray, List.nil_append, List.cons_append]
 gi_wp2
 gi_loopw [8] (fun ii wr => ∃ (i : Nat) (p : List Int), ii = .int .i64 (i : Nat) ∧ i ≤ N ∧ Hid (p = [] → ∀ (j : Nat) (y : Int), j < i → c[j]? = some y → y < m) ∧ Hid (J p wr) ∧ Hid (Kp W wr)) (fun ii wr => N - (intOf ii).toNat)
 case atStart => exact ⟨0, [], rfl, Nat.zero_le _, fun _ j y hj => absurd hj (by omega), h0, HKr.out W⟩
 case round =>
  obtain ⟨i, pre, rfl, hp, hO, hJ, hK⟩ := hrel
  by_cases hlt : i < N
  ·obtain ⟨x, hx⟩ : ∃ x, c[i]? = some x := ⟨_, List.getElem?_eq_getElem (by rw [HN.out]; exact hlt)⟩
   obtain ⟨-, c1, hrow⟩ := HR.out W wr HW.out hK.out
   obtain ⟨a', c', e, -, -, hcell⟩ := hrow.openZ
   simp only [Value.slice.injEq] at e
   obtain ⟨rfl, -, rfl⟩ := e
   obtain ⟨g, o, rfl, hg, hc⟩ := hcell i x hx
   have HX := hid hx
   have b1 : (0 : Int) ≤ (i : Int) := by omega
   have b2 : (i : Int) < (N : Int) := by omega
   have wi : IntKind.i64.wrap ((i : Int) + 1) = (i : Int) + 1 := by rw [IntWalk.i64_in _ ⟨by omega, by omega⟩]
   have HLT := hid hlt
   clear hx hrow hcell hg hlt hp
   by_cases hm : m ≤ x
   ·have t0 : decide (m ≤ x) = true := decide_eq_true hm
    have hok : hOk m c pre (i : Nat) := fun e => by
     have := hitI_eq HX.out hm (fun j y hj hy => by have := hO.out e j y hj hy; omega)
     exact ⟨by rw [this], by rw [this, HN.out]; exact HLT.out⟩
    have HOK := hid hok
    obtain ⟨fn, tmps, assign, body, hy, hR⟩ := HY.out pre (i : Nat) wr hok hJ.out
    have HYR := hid hR
    clear hok hR hm
    gi_wp2_with fail
    refine HYR.out.mono ?_
    rintro e W3 (⟨rfl, hJ3, hk3⟩ | ⟨rfl, hJx3⟩)
    ·have HJ3 := hid hJ3; have HK3 := hid (HKt.out _ _ _ hK.out hk3)
     clear hJ3 hk3 hy
     gi_wp2_with fail
     go_roundw
     case rel => exact ⟨i + 1, pre ++ [((i : Nat) : Int)], rfl, HLT.out, fun e => by simp at e, HJ3, HK3⟩
     case measure => simp [intOf] <;> (have := HLT.out; omega)
    ·clear hy
     gi_wp2_with fail
     refine bodyPost_ret (results_none rfl _ _ _) rfl ?_
     exact ⟨⟨_, rfl⟩, .inr ⟨_, trivial, hJx3⟩⟩
   ·have t0 : decide (m ≤ x) = false := decide_eq_false hm
    have HM := hid (show x < m by omega)
    clear hm
    gi_wp2_with fail
    refine ⟨fun f hf => (by cases hf), ?_⟩
    gi_wp2_with fail
    go_roundw
    case rel => exact ⟨i + 1, pre, rfl, HLT.out, fun e j y hj hy => by
     rcases Nat.lt_or_ge j i with h | h
     ·exact hO.out e j y h hy
     ·obtain rfl : j = i := by omega
      rw [HX.out] at hy; cases hy; exact HM.out, hJ, hK⟩
    case measure => simp [intOf] <;> (have := HLT.out; omega)
  ·obtain rfl : i = N := by omega
   gi_wp2_with fail
   refine bodyPost_end (results_none rfl _ _ _) rfl ?_
   exact ⟨⟨_, rfl⟩, .inl ⟨pre, fun e => hitI_none fun j y hj hy => by have := hO.out e j y (by rw [← HN.out]; exact hj) hy; omega, hJ.out⟩⟩
end Go.Proofs.YtlmnpocifldpmaaGreatDoor
namespace Go.Proofs
open Go.Shelf
def Tryz.cloneI_ren : Go.Shelf.Ren := ⟨fun | 41 => 47 | n => n, fun | 22 => 24 | 23 => 3 | 4 => 4 | n => n, fun | n => n⟩
theorem Tryz.cloneI : Go.Proofs.SlLaysE0.n41 Tryz.prog Tryz.cloneI_ren := {
 mixed := by kernel_rfl
 f41 := ⟨Tryz.f47.name, by decide, Tryz.func47.trans (congrArg some (by kernel_rfl))⟩
 t4 := Tryz.underlying4
 a4 := Tryz.isAgg4
 z4 := Tryz.sizeOf4
 v4 := Tryz.zeroValue4
 t22 := Tryz.underlying24
 a22 := Tryz.isAgg24
 z22 := Tryz.sizeOf24
 v22 := Tryz.zeroValue24 }
end Go.Proofs
namespace Go.Proofs.YtlmnpocifldpmaaGreatDoor
open Go.RowKit
open Go.Shelf
open Go.Lib (decDigits nDigits)
theorem info_intO : (Tryz.prog.info? 3).map (fun i => (i.zero, i.size, i.bytes)) = some (some (.int .i64 0), 1, 8) := by kernel_rfl
attribute [local go_sem] Oper.semAt_some
theorem marks_ret {n : Nat} {P : Program} {fn : Func} {R : Ending → World → Prop} {tmps : Array Value} {W : World} {v : Value} (hv : (results fn tmps).run P W = .ok v W) (hR : R (.returned v) W) :
 bodyPostM Fence.wide n P fn R .ret { tmps := tmps, defers := [] } W := ⟨v, hv, hR⟩
theorem s_CloneI (w : World) (v : Value) (l : List Int) (hv : Row w v (zs l)) (h1 : 1 ≤ l.length) (hl : l.length ≤ 1000) :
 Calls Tryz.prog 47 #[v] w fun e w' => (∃ g cap, e = .returned (.slice (some ⟨g, 0, none⟩) l.length cap) ∧ w'.ownsRow w.heap.size 3 1 (.slice (some ⟨g, 0, none⟩) l.length cap) l.length (zs l)) ∧ Below w.heap.size w w' := by
 obtain ⟨a, c, rfl, q1, q2, q3⟩ := hv.openZ
 obtain ⟨i0, hi, hz0, hz1, hz2⟩ := info_parts info_intO
 obtain ⟨x0, hx0⟩ : ∃ x, l[0]? = some x := ⟨_, List.getElem?_eq_getElem (by omega)⟩
 obtain ⟨g, o, rfl, hg, -⟩ := q3 0 x0 hx0
 have hcell : ∀ j u, (zs l)[j]? = some u → w.cell? ⟨g, o + j, none⟩ = some u := fun j u hu => by
  obtain ⟨g', o', e, -, h⟩ := hv.at hu
  simp at e
  obtain ⟨rfl, rfl⟩ := e
  exact h
 have PC : Calls Tryz.prog 47 #[.slice (some ⟨g, o, none⟩) l.length c] w fun e w' => ∃ v', e = .returned v' ∧ w'.ownsRow w.heap.size 3 1 v' l.length (zs l) ∧ v' ≠ .slice none 0 0 ∧ RowKit.Below w.heap.size w w' :=
  AnyE.slices_Clone Tryz.cloneI i0 (.int .i64 0) 1 8 hi hz0 hz1 hz2 rfl (by decide) Tryz.sizeOf3 g o l.length c (zs l) w (by rw [zs_length, Nat.mul_one]) (by unfold maxLen; omega) (by omega) hcell (fun u hu => by
  unfold zs at hu
  obtain ⟨x, -, rfl⟩ := List.mem_map.1 hu
  rfl)
 refine PC.mono ?_
 rintro e w1 ⟨u, rfl, hown, -, hb1⟩
 refine ⟨?_, hb1⟩
 obtain ⟨m, hm⟩ : ∃ m, l.length = m + 1 := ⟨l.length - 1, by omega⟩
 rw [hm] at hown ⊢
 obtain ⟨g1, cap1, rfl⟩ := ownsRow_succ hown
 exact ⟨g1, cap1, rfl, hown⟩
theorem sp_First_bad (w : World) (v u : Value) (c : List Int) (thr : Int) (a r : ByteArray) (b : List ByteArray) (hv : Row w v (zs c)) (hu : Row w u (strs b)) (ha : a.size ≤ 100000) (hr : r.size ≤ 100000) (hb : ∀ x ∈ b, x.size ≤ 100000000) (hL : Lay w) (h0 : fsE c thr a r b ≠ 0) :
 Calls Tryz.prog 12 #[v, .int .i64 thr, .string a, .string r, u] w fun e w' => e = .returned (.tuple #[.int .i64 (fsA c thr a r b).1, .bool (fsA c thr a r b).2, .int .i64 (fsE c thr a r b)]) ∧ Below w.heap.size w w' := by
 have HQ := fun V hV hLV => hid (sp_question V v c thr a r hV ha hr hLV)
 have HW := fun V h => hid (sp_words V u b (IntKind.i64.wrap ((c.length : Int) + 1)) h hb)
 have HV := hid hv; have HU := hid hu; have HL := hid hL
 obtain ⟨s, cp, rfl, q1, q2, q3⟩ := hv.openZ
 obtain ⟨t, cq, rfl, p1, p2, p3⟩ := hu.openS
 have CO := fun V v h => hid (s_OrE V v [sqnE c thr a r, wdE b (IntKind.i64.wrap ((c.length : Int) + 1))] h)
 rw [orZ_two] at CO
 rw [show fsA c thr a r b = (0, false) from if_neg h0]
 have e1 : (if sqnE c thr a r ≠ 0 then sqnE c thr a r else wdE b (IntKind.i64.wrap ((c.length : Int) + 1))) = fsE c thr a r b := by
  unfold fsE
  by_cases h : sqnE c thr a r = 0
  ·rw [if_neg (by simpa using h), if_neg (by simpa using h)]
   obtain ⟨-, k2, -⟩ := sqnE_q h
   rw [IntWalk.i64_in _ ⟨by omega, by omega⟩]
   congr 1
  ·rw [if_pos h, if_pos h]
 rw [e1] at CO
 obtain ⟨z, hz⟩ : ∃ z, fsE c thr a r b = z := ⟨_, rfl⟩
 obtain ⟨qe, hqe⟩ : ∃ z, sqnE c thr a r = z := ⟨_, rfl⟩
 obtain ⟨K, hK⟩ : ∃ z, IntKind.i64.wrap ((c.length : Int) + 1) = z := ⟨_, rfl⟩
 simp only [hK] at HW
 rw [hK] at CO
 obtain ⟨we, hwe⟩ : ∃ z, wdE b K = z := ⟨_, rfl⟩
 obtain ⟨n, hn⟩ : ∃ n, c.length = n := ⟨_, rfl⟩
 obtain ⟨n2, hn2⟩ : ∃ n, b.length = n := ⟨_, rfl⟩
 rw [hz, hqe, hwe] at CO
 rw [hz] at h0 ⊢
 simp only [hqe] at HQ
 simp only [hwe] at HW
 rw [hn] at HV q1 ⊢
 simp only [hn] at HQ HW
 simp only [hn2] at HW
 rw [hn2] at HU p1 ⊢
 have t0 : (z != 0) = true := by simpa using h0
 have t0' : (z == 0) = false := by simpa using h0
 rw [hn] at hK
 have A3 := hid ((((Below.refl w.heap.size w).alloc (Nat.le_refl _) (.cells #[.int .i64 0] 3)).alloc (by simp) (.cells #[.bool false] 4)).alloc (by simp <;> omega) (.cells #[.int .i64 0] 27))
 have X0 := hid (((Blk.new w #[.int .i64 0] 3).alloc (.cells #[.bool false] 4)).alloc (.cells #[.int .i64 0] 27))
 have X1 := hid ((Blk.made (w.alloc (.cells #[.int .i64 0] 3)) #[.bool false] 4 (n := w.heap.size + 1) (by simp)).alloc (.cells #[.int .i64 0] 27))
 have X2 := hid (Blk.made ((w.alloc (.cells #[.int .i64 0] 3)).alloc (.cells #[.bool false] 4)) #[.int .i64 0] 27 (n := w.heap.size + 1 + 1) (by simp))
 clear hv hu q3 p3 hz hn hn2 h0 hqe hwe e1 ha hr hb hL
 go_enter Tryz.func12, Tryz.ntmps12
 go_wp2_with fail
 refine (HQ _ (HV.out.call A3.out) (HL.out.call A3.out)).out.mono ?_; rintro e w1 ⟨rfl, hb1⟩
 have y1 := hid (bnext A3.out hb1)
 have X0 := hid (X0.out.call hb1); have X1 := hid (X1.out.call hb1); have X2 := hid (X2.out.call hb1)
 clear hb1
 go_wp2_with fail
 refine (HW _ (HU.out.call y1.out)).out.mono ?_; rintro e w2 ⟨rfl, hb2⟩
 have y2 := hid (bnext y1.out hb2)
 have X0 := hid (X0.out.call hb2); have X1 := hid (X1.out.call hb2); have X2 := hid (X2.out.call hb2)
 clear hb2
 go_wp2_with fail
 refine (CO _ _ (row_two _ _ _ _)).out.mono ?_; rintro e w3 ⟨rfl, rfl⟩
 have y3 := hid (y2.out.alloc y2.out.size (.cells #[.int .i64 qe, .int .i64 we] 27))
 have Y0 := hid (X0.out.alloc (.cells #[.int .i64 qe, .int .i64 we] 27))
 have Y1 := hid (X1.out.alloc (.cells #[.int .i64 qe, .int .i64 we] 27))
 have Y2 := hid (X2.out.alloc (.cells #[.int .i64 qe, .int .i64 we] 27))
 obtain ⟨W, hW⟩ : ∃ W, w2.alloc (.cells #[.int .i64 qe, .int .i64 we] 27) = W := ⟨_, rfl⟩
 rw [hW] at y3 Y0 Y1 Y2 ⊢
 clear hW
 have c0 := Y0.out.cell 0
 have c1 := Y1.out.cell 0
 have c2 := Y2.out.cell 0
 have f0 := Y0.out.free 0
 have f1 := Y1.out.free 0
 have f2 := Y2.out.free 0
 simp at c0 c1 c2
 go_wp2_with fail
 have p0 := (((Y0.out.set 0 (.int .i64 0)).other (a := ⟨w.heap.size + 1, 0, none⟩) (by simp) (.bool false)).other (a := ⟨w.heap.size + 1 + 1, 0, none⟩) (by simp <;> omega) (.int .i64 z)).cell 0
 have p1 := (((Y1.out.other (a := ⟨w.heap.size, 0, none⟩) (by simp) (.int .i64 0)).set 0 (.bool false)).other (a := ⟨w.heap.size + 1 + 1, 0, none⟩) (by simp) (.int .i64 z)).cell 0
 have p2 := (((Y2.out.other (a := ⟨w.heap.size, 0, none⟩) (by simp <;> omega) (.int .i64 0)).other (a := ⟨w.heap.size + 1, 0, none⟩) (by simp) (.bool false)).set 0 (.int .i64 z)).cell 0
 simp at p0 p1 p2
 refine bodyPost_ret (v := .tuple #[.int .i64 0, .bool false, .int .i64 z]) (by simp [results, Tryz.results12, go_sem, p0, p1, p2]) rfl ⟨rfl, ?_⟩
 exact ((y3.out.setCell (by simp) _).setCell (by simp) _).setCell (by simp <;> omega) _
theorem zs_setS (l : List Int) (i : Nat) (x : Int) : (zs l).set i (.int .i64 x) = zs (l.set i x) := by simp [zs, List.map_set]
structure FsI (G g9 cap : Nat) (w B : World) (N D1 : Nat) (r : ByteArray) (c : List Int) (bs : List ByteArray) (d0 : Bool) (xd : Value × Value × Value) (i k : Nat) (W : World) : Prop where
 r0 : Blk W G #[.int .i64 0] 3
 r1 : Blk W (G + 1) #[.bool (d0 && dnL r (bs.take i))] 4
 r2 : Blk W (G + 1 + 1) #[.int .i64 0] 27
 own : W.ownsRow B.heap.size 3 1 (.slice (some ⟨g9, 0, none⟩) N cap) N (zs (nzP r c bs k))
 x : Blk W D1 #[xd.1, xd.2.1, xd.2.2] 82
 bel : Below w.heap.size w W
 big : B.heap.size ≤ W.heap.size
theorem FsI.call {G g9 cap : Nat} {w B : World} {N D1 : Nat} {r : ByteArray} {c : List Int} {bs : List ByteArray} {d0 : Bool} {xd : Value × Value × Value} {i k : Nat} {W W' : World} (h : FsI G g9 cap w B N D1 r c bs d0 xd i k W) (hb : Below W.heap.size W W') : FsI G g9 cap w B N D1 r c bs d0 xd i k W' :=
 ⟨h.r0.call hb, h.r1.call hb, h.r2.call hb, owns_call h.own hb, h.x.call hb, bnext h.bel hb, Nat.le_trans h.big hb.size⟩
theorem FsI.set9 {G g9 cap : Nat} {w B : World} {N D1 : Nat} {r : ByteArray} {c : List Int} {bs : List ByteArray} {d0 : Bool} {xd : Value × Value × Value} {i k : Nat} {W : World} (h : FsI G g9 cap w B N D1 r c bs d0 xd i k W) (y : Int) (he : (nzP r c bs k).set k y = nzP r c bs (k + 1)) (hw : w.heap.size ≤ G) (hG : G + 1 + 1 < B.heap.size) (hD : D1 < B.heap.size) :
 FsI G g9 cap w B N D1 r c bs d0 xd i (k + 1) (W.setCell ⟨g9, k, none⟩ (.int .i64 y)) := by
 have hg : B.heap.size ≤ g9 := (h.own.lt g9 rfl).1
 refine ⟨h.r0.other (by simp; omega) _, h.r1.other (by simp; omega) _, h.r2.other (by simp; omega) _, ?_, h.x.other (by simp; omega) _, h.bel.setCell (by simp; omega) _, by rw [World.size_setCell]; exact h.big⟩
 have := own_set h.own k (.int .i64 y)
 rw [zs_setS, he] at this
 exact this
theorem FsI.set1 {G g9 cap : Nat} {w B : World} {N D1 : Nat} {r : ByteArray} {c : List Int} {bs : List ByteArray} {d0 : Bool} {xd : Value × Value × Value} {i k : Nat} {W : World} (h : FsI G g9 cap w B N D1 r c bs d0 xd i k W) (q : Bool) (he : (d0 && dnL r (bs.take (i + 1))) = q) (hw : w.heap.size ≤ G) (hG : G + 1 + 1 < B.heap.size) (hD : G + 1 + 1 < D1) :
 FsI G g9 cap w B N D1 r c bs d0 xd (i + 1) k (W.setCell ⟨G + 1, 0, none⟩ (.bool q)) := by
 refine ⟨h.r0.other (by simp) _, ?_, h.r2.other (by simp) _, ownsRow_setCell_below h.own (by simp; omega) _, h.x.other (by simp; omega) _, h.bel.setCell (by simp; omega) _, by rw [World.size_setCell]; exact h.big⟩
 have := h.r1.set 0 (.bool q)
 rw [he]
 simpa using this
theorem sp_First_ok (w : World) (v u : Value) (c : List Int) (thr : Int) (a r : ByteArray) (b0 : ByteArray) (bs : List ByteArray) (hv : Row w v (zs c)) (hu : Row w u (strs (b0 :: bs))) (ha : a.size ≤ 100000) (hr : r.size ≤ 100000) (hb : ∀ x ∈ b0 :: bs, x.size ≤ 100000000) (hL : Lay w) (h0 : fsE c thr a r (b0 :: bs) = 0) :
 Calls Tryz.prog 12 #[v, .int .i64 thr, .string a, .string r, u] w fun e w' => e = .returned (.tuple #[.int .i64 (fsA c thr a r (b0 :: bs)).1, .bool (fsA c thr a r (b0 :: bs)).2, .int .i64 0]) ∧ Below w.heap.size w w' := by
 have OK := fsE_ok h0
 have hbl : bs.length = c.length := by have := OK.len; rw [List.length_cons] at this; omega
 have HQ := fun V hV hLV => hid (sp_question V v c thr a r hV ha hr hLV)
 have HW := fun V h => hid (sp_words V u (b0 :: bs) ((c.length + 1 : Nat) : Int) h hb)
 have hq0 : sqnE c thr a r = 0 := by
  unfold fsE at h0
  split at h0
  ·rename_i h1; exact absurd h0 h1
  ·rename_i h1; exact Classical.byContradiction h1
 have hw0 : wdE (b0 :: bs) ((c.length + 1 : Nat) : Int) = 0 := by
  unfold fsE at h0
  rw [if_neg (by simpa using hq0)] at h0
  exact h0
 have CO := fun V v h => hid (s_OrE V v [0, 0] h)
 rw [orZ_two, if_neg (by simp)] at CO
 simp only [hq0] at HQ
 simp only [hw0] at HW
 rw [fs_two h0]
 have HV := hid hv; have HU := hid hu; have HL := hid hL
 obtain ⟨s, cp, rfl, q1, q2, q3⟩ := hv.openZ
 obtain ⟨t, cq, rfl, p1, p2, p3⟩ := hu.openS
 have hsz0 := chk_size (OK.b b0 (List.mem_cons_self ..))
 have hszs : ∀ x ∈ bs, x.size ≤ 256 := fun x hx => chk_size (OK.b x (List.mem_cons_of_mem _ hx))
 have PT := fun V hV => hid (g_Two V a b0 ha (by omega) hV)
 have PN := fun V x (hx : x ∈ bs) hV => hid (g_Two V r x hr (by have := hszs x hx; omega) hV)
 have hv0 := wT_bound a b0 hsz0
 have HRG := hid (nzL_rng (r := r) OK.rng hszs)
 have HSZ := hid hszs
 have HOK := hid OK; have HBL := hid hbl
 obtain ⟨z, hz⟩ : ∃ z, (if ((wT a b0).1 && dnL r bs) = true then fsV c.length (some (hitI (thr + (wT a b0).2.1) (nzL r c bs))) else (0, false)) = z := ⟨_, rfl⟩
 have HZ := hid hz
 rw [hz]
 obtain ⟨T, hT⟩ : ∃ T, wT a b0 = T := ⟨_, rfl⟩
 obtain ⟨ge, hge⟩ : ∃ y, gE a b0 = y := ⟨_, rfl⟩
 rw [hT] at HZ hv0
 simp only [hT, hge] at PT
 obtain ⟨d0, v0, u0⟩ := T
 simp only [d3] at PT
 dsimp only at HZ hv0
 obtain ⟨gb, ob, rfl, hgb, hcb⟩ := p3 0 b0 rfl
 rw [Nat.add_zero] at hcb
 obtain ⟨n, hn⟩ : ∃ n, c.length = n := ⟨_, rfl⟩
 have HN := hid hn
 have hn2 : (b0 :: bs).length = n + 1 := by rw [List.length_cons, hbl, hn]
 have PCL := fun V hV => hid (s_CloneI V (.slice s c.length cp) c hV OK.pos (by have := OK.le; omega))
 rw [hn] at HV q1 HZ ⊢
 simp only [hn] at HQ HW PCL
 simp only [hn2] at HW
 rw [hn2] at HU p1 ⊢
 have hn256 : n ≤ 256 := by have := OK.le; omega
 have hn1 : 1 ≤ n := by have := OK.pos; omega
 have HN1 := hid hn1; have HN256 := hid hn256
 have HTH := hid OK.thr
 have HV0 := hid hv0
 have wn : IntKind.i64.wrap ((n : Int) + 1) = ((n + 1 : Nat) : Int) := by rw [IntWalk.i64_in _ ⟨by omega, by omega⟩]; omega
 have A3 := hid ((((Below.refl w.heap.size w).alloc (Nat.le_refl _) (.cells #[.int .i64 0] 3)).alloc (by simp) (.cells #[.bool false] 4)).alloc (by simp <;> omega) (.cells #[.int .i64 0] 27))
 have X0 := hid (((Blk.new w #[.int .i64 0] 3).alloc (.cells #[.bool false] 4)).alloc (.cells #[.int .i64 0] 27))
 have X1 := hid ((Blk.made (w.alloc (.cells #[.int .i64 0] 3)) #[.bool false] 4 (n := w.heap.size + 1) (by simp)).alloc (.cells #[.int .i64 0] 27))
 have X2 := hid (Blk.made ((w.alloc (.cells #[.int .i64 0] 3)).alloc (.cells #[.bool false] 4)) #[.int .i64 0] 27 (n := w.heap.size + 1 + 1) (by simp))
 have HGB := hid hgb; have HCB := hid hcb; have P3 := hid p3
 clear hv hu q3 p3 hz hn hn2 h0 hq0 hw0 hT hge ha hr hb hL OK hbl hszs hsz0 hv0 hgb hcb hn256 hn1
 refine (callsIn_wide (n := 9)).1 ?_
 refine callsIn_of_wp_marks Tryz.func12 rfl trivial ?_ rfl
 simp only [Tryz.ntmps12, List.size_toArray, List.length_cons, List.length_nil, Nat.reduceAdd, Nat.reduceSub, Array.replicate_succ, Array.replicate_zero, List.push_toArray, List.append_toArray, List.nil_append, List.cons_append]
 gi_wp2_with fail
 refine ⟨trivial, ?_⟩
 refine (callsIn_wide.2 (HQ _ (HV.out.call A3.out) (HL.out.call A3.out)).out).mono ?_; rintro e w1 ⟨rfl, hb1⟩
 have y1 := hid (bnext A3.out hb1)
 have X0 := hid (X0.out.call hb1); have X1 := hid (X1.out.call hb1); have X2 := hid (X2.out.call hb1)
 clear hb1
 gi_wp2_with fail
 refine ⟨trivial, ?_⟩
 refine (callsIn_wide.2 (HW _ (HU.out.call y1.out)).out).mono ?_; rintro e w2 ⟨rfl, hb2⟩
 have y2 := hid (bnext y1.out hb2)
 have X0 := hid (X0.out.call hb2); have X1 := hid (X1.out.call hb2); have X2 := hid (X2.out.call hb2)
 clear hb2
 gi_wp2_with fail
 refine ⟨trivial, ?_⟩
 refine (callsIn_wide.2 (CO _ _ (row_two _ _ _ _)).out).mono ?_; rintro e w3 ⟨rfl, rfl⟩
 have y3 := hid (y2.out.alloc y2.out.size (.cells #[.int .i64 0, .int .i64 0] 27))
 have X0 := hid (X0.out.alloc (.cells #[.int .i64 0, .int .i64 0] 27))
 have X1 := hid (X1.out.alloc (.cells #[.int .i64 0, .int .i64 0] 27))
 have X2 := hid (X2.out.alloc (.cells #[.int .i64 0, .int .i64 0] 27))
 obtain ⟨w3, hw3⟩ : ∃ W, w2.alloc (.cells #[.int .i64 0, .int .i64 0] 27) = W := ⟨_, rfl⟩
 rw [hw3] at y3 X0 X1 X2 ⊢
 clear hw3
 have c3 := (y3.out.cell (p := ⟨gb, ob, none⟩) HGB.out).trans HCB.out
 have b1 : (0 : Int) < (n : Int) + 1 := by omega
 gi_wp2_with fail
 refine ⟨trivial, ?_⟩
 refine (callsIn_wide.2 (PT _ (HL.out.call y3.out)).out).mono ?_; rintro e w4 ⟨rfl, hb4⟩
 have y4 := hid (bnext y3.out hb4)
 have X2l := hid ((X2.out.call hb4).lt)
 have X0 := hid ((X0.out.call hb4).alloc (.cells #[.bool d0, .int .i64 v0, .int .i64 u0] 82))
 have X1 := hid ((X1.out.call hb4).alloc (.cells #[.bool d0, .int .i64 v0, .int .i64 u0] 82))
 have X2 := hid ((X2.out.call hb4).alloc (.cells #[.bool d0, .int .i64 v0, .int .i64 u0] 82))
 have XD := hid (Blk.new w4 #[.bool d0, .int .i64 v0, .int .i64 u0] 82)
 have y5 := hid (y4.out.alloc y4.out.size (.cells #[.bool d0, .int .i64 v0, .int .i64 u0] 82))
 have lt4 := hid X0.out.lt; have lt4' := hid X1.out.lt; have lt4b := hid X2.out.lt
 have k1 := X1.out.cell 0
 have k2 := X1.out.free 0
 simp at k1
 clear hb4 c3 b1
 gi_wp2_with fail
 obtain ⟨D1, hD1⟩ : ∃ G, w4.heap.size = G := ⟨_, rfl⟩
 rw [hD1] at XD X2l ⊢
 have B6 := hid (y5.out.setCell (p := ⟨w.heap.size + 1, 0, none⟩) (Nat.le_succ _) (.bool d0))
 have Z0 := hid (X0.out.other (a := ⟨w.heap.size + 1, 0, none⟩) (by simp) (.bool d0))
 have Z1 := hid (X1.out.set 0 (.bool d0))
 have Z2 := hid (X2.out.other (a := ⟨w.heap.size + 1, 0, none⟩) (by simp) (.bool d0))
 have ZD := hid (XD.out.other (a := ⟨w.heap.size + 1, 0, none⟩) (by have := X2l.out; simp; omega) (.bool d0))
 obtain ⟨W6, hW6⟩ : ∃ W, (w4.alloc (.cells #[.bool d0, .int .i64 v0, .int .i64 u0] 82)).setCell ⟨w.heap.size + 1, 0, none⟩ (.bool d0) = W := ⟨_, rfl⟩
 rw [hW6] at B6 Z0 Z1 Z2 ZD ⊢
 clear hW6 X0 X1 X2 XD k1 k2 hD1
 refine ⟨trivial, ?_⟩
 refine (callsIn_wide.2 (PCL _ (HV.out.call B6.out)).out).mono ?_; rintro e w7 ⟨⟨g9, cap, rfl, hown⟩, hb7⟩
 have F0 : Hid (FsI w.heap.size g9 cap w W6 n D1 r c bs d0 (.bool d0, .int .i64 v0, .int .i64 u0) 0 0 w7) := by
  refine ⟨Z0.out.call hb7, ?_, Z2.out.call hb7, ?_, ZD.out.call hb7, bnext B6.out hb7, hb7.size⟩
  ·have h := Z1.out.call hb7
   rw [List.take_zero]
   show Blk _ _ #[.bool (d0 && true)] _
   rw [Bool.and_true]
   simpa using h
  ·rw [nzP_zero]; exact hown
 have l26 := hid Z2.out.lt; have lD6 := hid ZD.out.lt
 clear hb7 hown Z0 Z1 Z2 ZD
 gi_wp2_with fail
 gi_loopw [17, 18, 19, 51] (fun s17 s18 s19 s51 wr => ∃ i : Nat, s51 = .int .i64 (i : Nat) ∧ i ≤ n ∧ Hid (FsI w.heap.size g9 cap w W6 n D1 r c bs d0 (.bool d0, .int .i64 v0, .int .i64 u0) i i wr)) (fun s17 s18 s19 s51 wr => n - (intOf s51).toNat)
 case atStart => exact ⟨0, rfl, Nat.zero_le _, F0⟩
 case round =>
  clear F0
  obtain ⟨i, rfl, hi', hI⟩ := hrel
  by_cases hlt : i < n
  ·obtain ⟨x, hx⟩ : ∃ x, c[i]? = some x := ⟨_, List.getElem?_eq_getElem (by rw [HN.out]; exact hlt)⟩
   obtain ⟨bi, hbi⟩ : ∃ x, bs[i]? = some x := ⟨_, List.getElem?_eq_getElem (by rw [HBL.out, HN.out]; exact hlt)⟩
   obtain ⟨gb2, ob2, e2, -, hc2⟩ := P3.out (i + 1) bi (by rw [List.getElem?_cons_succ]; exact hbi)
   simp only [Option.some.injEq, Addr.mk.injEq, and_true] at e2
   obtain ⟨rfl, rfl⟩ := e2
   have c1 := (hI.out.bel.cell (p := ⟨gb, ob + (i + 1), none⟩) HGB.out).trans hc2
   have hn256 := HN256.out
   have f0 : (0 : Int) ≤ (i : Int) := by omega
   have f1 : (i : Int) < (n : Int) := by omega
   have g0 : (0 : Int) ≤ ((i + 1 : Nat) : Int) := by omega
   have g1 : ((i + 1 : Nat) : Int) < (n : Int) + 1 := by omega
   have g2 : ((i + 1 : Nat) : Int) < ((n + 1 : Nat) : Int) := by omega
   have wi : IntKind.i64.wrap ((i : Int) + 1) = ((i + 1 : Nat) : Int) := by rw [IntWalk.i64_in _ ⟨by omega, by omega⟩]; omega
   have PNi := fun V hV => PN V bi (List.mem_of_getElem? hbi) hV
   have hvb := wT_bound r bi (HSZ.out bi (List.mem_of_getElem? hbi))
   have hxr := HOK.out.rng x (List.mem_of_getElem? hx)
   have hdn := dnL_take (r := r) hbi
   have hnx := nzP_next (r := r) HBL.out hx hbi
   have hat := nzP_at (r := r) HBL.out hx
   obtain ⟨T, hT⟩ : ∃ T, wT r bi = T := ⟨_, rfl⟩
   obtain ⟨ge2, hge2⟩ : ∃ y, gE r bi = y := ⟨_, rfl⟩
   simp only [hT, hge2] at PNi
   rw [hT] at hvb hdn hnx
   obtain ⟨d, v1, u1⟩ := T
   simp only [d3] at PNi
   dsimp only at hvb hdn hnx
   have wx : IntKind.i64.wrap (x + v1) = x + v1 := by rw [IntWalk.i64_in _ ⟨by omega, by omega⟩]
   have HDN := hid hdn; have HNX := hid hnx; have HAT := hid hat; have HLT := hid hlt
   clear hx hbi hc2 hvb hxr hdn hnx hat hT hge2 hi' hlt hn256
   gi_wp2_with fail
   refine ⟨trivial, ?_⟩
   refine (callsIn_wide.2 (PNi _ (HL.out.call hI.out.bel)).out).mono ?_; rintro e w8 ⟨rfl, hb8⟩
   have I8 := hid ((hI.out.call hb8).call ((Below.refl w8.heap.size w8).alloc (Nat.le_refl _) (.cells #[.bool d, .int .i64 v1, .int .i64 u1] 82)))
   have XB := hid (Blk.new w8 #[.bool d, .int .i64 v1, .int .i64 u1] 82)
   have lt8 := hid (show w8.heap.size > g9 ∧ w8.heap.size > w.heap.size + 1 from ⟨(own_slot (owns_call hI.out.own hb8)).2.1, ((hI.out.call hb8).r1).lt⟩)
   clear hb8 c1
   obtain ⟨o1, o2, o3, o4, -, -, -⟩ := own_slot I8.out.own
   have m0 := o4 i _ (zs_get HAT.out)
   have m1 := o3 i
   have m2 := XB.out.cell 1
   have m3 := XB.out.cell 0
   simp at m2 m3
   have O1 := hid o1
   clear o1 o2 o3 o4
   have ne1 : (g9 = w8.heap.size) = False := eq_false (by have := lt8.out; omega)
   have ne2 : (w8.heap.size = g9) = False := eq_false (by have := lt8.out; omega)
   gi_wp2_with fail
   gi_region
   have J9 := hid ((I8.out.set9 (x + v1) HNX.out (Nat.le_refl _) l26.out lD6.out).call (Below.refl _ _).drew)
   have XB9 := hid ((XB.out.other (a := ⟨g9, i, none⟩) (by have := lt8.out; simp; omega) (.int .i64 (x + v1))).call (Below.refl _ _).drew)
   obtain ⟨w9, hw9⟩ : ∃ W, ((w8.alloc (.cells #[.bool d, .int .i64 v1, .int .i64 u1] 82)).setCell ⟨g9, i, none⟩ (.int .i64 (x + v1))).drew = W := ⟨_, rfl⟩
   rw [hw9] at J9 XB9 ⊢
   clear hw9 m0 m1 m2 m3 ne1 ne2
   obtain ⟨q, hq⟩ : ∃ q, (d0 && dnL r (bs.take i)) = q := ⟨_, rfl⟩
   have m0 := J9.out.r1.cell 0
   have m1 := J9.out.r1.free 0
   have m3 := XB9.out.cell 0
   simp at m0 m3
   rw [hq] at m0
   have HQ2 : Hid ((d0 && dnL r (bs.take (i + 1))) = (q && d)) := by
    show _ = _
    rw [HDN.out, ← Bool.and_assoc, hq]
   clear hq
   cases q
   ·gi_wp2_with fail
    go_roundw
    case rel => exact ⟨i + 1, by go_num, HLT.out, J9.out.set1 false HQ2.out (Nat.le_refl _) l26.out X2l.out⟩
    case measure => simp [intOf] <;> (have := HLT.out; omega)
   ·gi_wp2_with fail
    go_roundw
    case rel => exact ⟨i + 1, by go_num, HLT.out, J9.out.set1 d (HQ2.out.trans (Bool.true_and d)) (Nat.le_refl _) l26.out X2l.out⟩
    case measure => simp [intOf] <;> (have := HLT.out; omega)
  ·obtain rfl : i = n := by omega
   have hnl : bs.take i = bs := List.take_of_length_le (by rw [HBL.out, HN.out]; exact Nat.le_refl _)
   have hI1 := hI.out.r1
   rw [hnl] at hI1
   have hne : nzP r c bs i = nzL r c bs := by rw [← HN.out]; exact nzP_end HBL.out
   have hrow : Row wr (.slice (some ⟨g9, 0, none⟩) i cap) (zs (nzL r c bs)) := by rw [← hne]; exact Row.of_owns hI.out.own
   have HROW := hid hrow
   obtain ⟨q, hq⟩ : ∃ q, (d0 && dnL r bs) = q := ⟨_, rfl⟩
   rw [hq] at hI1
   have HZ2 := HZ.out
   rw [hq] at HZ2
   have e0 := hI1.cell 0
   have e1 := hI1.free 0
   have e2 := hI.out.r0.cell 0
   have e3 := hI.out.r0.free 0
   have e4 := hI.out.r2.cell 0
   have e5 := hI.out.r2.free 0
   simp at e0 e2 e4
   have q1 : decide ((i : Int) < (i : Int)) = false := by simp
   have HI1 := hid hI1
   clear hlt hi' hnl hne hrow hq hI1
   cases q
   ·have hz : z = (0, false) := by rw [← HZ2]; rfl
    have HZZ := hid hz
    clear HZ2 hz
    gi_wp2_with fail
    have p0 := (((hI.out.r0.set 0 (.int .i64 0)).other (a := ⟨w.heap.size + 1, 0, none⟩) (by simp) (.bool false)).other (a := ⟨w.heap.size + 1 + 1, 0, none⟩) (by simp <;> omega) (.int .i64 0)).cell 0
    have p1 := (((HI1.out.other (a := ⟨w.heap.size, 0, none⟩) (by simp) (.int .i64 0)).set 0 (.bool false)).other (a := ⟨w.heap.size + 1 + 1, 0, none⟩) (by simp) (.int .i64 0)).cell 0
    have p2 := (((hI.out.r2.other (a := ⟨w.heap.size, 0, none⟩) (by simp <;> omega) (.int .i64 0)).other (a := ⟨w.heap.size + 1, 0, none⟩) (by simp) (.bool false)).set 0 (.int .i64 0)).cell 0
    simp at p0 p1 p2
    refine marks_ret (v := .tuple #[.int .i64 0, .bool false, .int .i64 0]) (by simp [results, Tryz.results12, go_sem, p0, p1, p2]) ⟨by rw [HZZ.out], ?_⟩
    exact ((hI.out.bel.setCell (by simp) _).setCell (by simp) _).setCell (by simp <;> omega) _
   ·have hz : z = fsV i (some (hitI (thr + v0) (nzL r c bs))) := by rw [← HZ2]; rfl
    have HZZ := hid hz
    have x1 := hI.out.x.cell 1
    simp at x1
    have wt : IntKind.i64.wrap (thr + v0) = thr + v0 := by have := HTH.out; have := HV0.out; rw [IntWalk.i64_in _ ⟨by omega, by omega⟩]
    have hln : (nzL r c bs).length = i := by rw [nzL_length HBL.out, HN.out]
    have HLN := hid hln
    clear HZ2 hz q1 hln
    gi_wp2_with fail
    refine ⟨trivial, ?_⟩
    refine (callsIn_wide.2 (sp_hits _ _ _ _ _)).mono ?_; rintro e w' ⟨rfl, rfl⟩
    gi_wp2_with fail
    obtain ⟨W0, hW0⟩ : ∃ W0, (wr.alloc (.cells #[.slice (some ⟨g9, 0, none⟩) i cap] 24)).alloc (.cells #[.int .i64 (thr + v0)] 3) = W0 := ⟨_, rfl⟩
    have d0 : Below wr.heap.size wr W0 := by rw [← hW0]; exact ((Below.refl _ _).alloc (Nat.le_refl _) _).alloc (by simp) _
    have d1 : Blk W0 wr.heap.size #[.slice (some ⟨g9, 0, none⟩) i cap] 24 := by rw [← hW0]; exact (Blk.new wr _ _).alloc _
    have d2 : Blk W0 (wr.heap.size + 1) #[.int .i64 (thr + v0)] 3 := by rw [← hW0]; exact Blk.made _ _ _ (by simp)
    rw [hW0]
    have E0 := hid (hI.out.r0.call d0); have E1 := hid (HI1.out.call d0); have E2 := hid (hI.out.r2.call d0); have B0 := hid (bnext hI.out.bel d0)
    have RW := hid (HROW.out.call d0)
    have Y1 := hid d1; have Y2 := hid d2
    obtain ⟨B, hB⟩ : ∃ B, wr.heap.size = B := ⟨_, rfl⟩
    rw [hB] at Y1 Y2 ⊢
    obtain ⟨hh, hhh⟩ : ∃ h, hitI (thr + v0) (nzL r c bs) = h := ⟨_, rfl⟩
    rw [hhh] at HZZ
    have HHH := hid hhh
    have LG := hid E2.out.lt
    clear d0 d1 d2 hW0 hB hhh e0 e1 e2 e3 e4 e5 x1 wt
    have hread : ∀ W1 W2, Below W0.heap.size W0 W1 → KpC W0.heap.size W1 W2 → W2.cell? ⟨B, 0, none⟩ = some (.slice (some ⟨g9, 0, none⟩) i cap) ∧ W2.cell? ⟨B + 1, 0, none⟩ = some (.int .i64 (thr + v0)) ∧ Row W2 (.slice (some ⟨g9, 0, none⟩) i cap) (zs (nzL r c bs)) := fun W1 W2 b1 b2 => by
     have b3 : Below W0.heap.size W0 W2 := b1.trans (b2.rest b1.size)
     exact ⟨(Y1.out.call b3).cell 0, (Y2.out.call b3).cell 0, RW.out.call b3⟩
    refine range_ok (by omega) (gf := 105) (lb := #[.pointer (some ⟨B, 0, none⟩), .pointer (some ⟨B + 1, 0, none⟩)]) rfl (enters_of Tryz.func105 (by kernel_rfl) rfl)
     (hits_feeds (Kp := KpC W0.heap.size) 8 (by omega) W0 B (B + 1) (.slice (some ⟨g9, 0, none⟩) i cap) (nzL r c bs) (thr + v0) (by rw [HLN.out]; exact HN256.out) (KpC.refl _) KpC.trans hread (fun _ _ => KpC.of_below)) KpC.trans (KpC.put (Nat.le_refl _)) (Below.refl _ _) (fun _ => rfl)
     (fun p W => (p = [] ∧ Blk W w.heap.size #[.int .i64 0] 3 ∧ Blk W (w.heap.size + 1) #[.bool true] 4 ∧ Blk W (w.heap.size + 1 + 1) #[.int .i64 0] 27) ∧ Below w.heap.size w W)
     (fun c p W => (c = .ret ∧ hh < i ∧ Blk W w.heap.size #[.int .i64 (hh : Nat)] 3 ∧ Blk W (w.heap.size + 1) #[.bool true] 4 ∧ Blk W (w.heap.size + 1 + 1) #[.int .i64 0] 27) ∧ Below w.heap.size w W)
     (OwnFrom.and (fun s X Y row hs hg hr => ⟨hs.1, hs.2.1.kept hg (fun r e => (hr r e).2), hs.2.2.1.kept hg (fun r e => (hr r e).2), hs.2.2.2.kept hg (fun r e => (hr r e).2)⟩) (ownFrom_below (Nat.le_refl _) (by have := LG.out; omega)))
     (fun c => OwnFrom.and (fun s X Y row hs hg hr => ⟨hs.1, hs.2.1, hs.2.2.1.kept hg (fun r e => (hr r e).2), hs.2.2.2.1.kept hg (fun r e => (hr r e).2), hs.2.2.2.2.kept hg (fun r e => (hr r e).2)⟩) (ownFrom_below (Nat.le_refl _) (by have := LG.out; omega)))
     ⟨⟨rfl, E0.out, E1.out, E2.out⟩, B0.out⟩ ?act ?assign ?body ?done ?stop
    case assign =>
     intro l x W K hK
     gi_wp2
     exact hK
    case body =>
     rintro l p x W hOk ⟨⟨rfl, r0, r1, r2⟩, hB⟩
     obtain ⟨hx, hlt⟩ := hOk rfl
     rw [HHH.out] at hx hlt
     rw [HLN.out] at hlt
     subst hx
     have e0 := r0.cell 0
     have e1 := r0.free 0
     have e2 := r1.cell 0
     have e3 := r1.free 0
     have e4 := r2.cell 0
     have e5 := r2.free 0
     simp at e0 e2 e4
     have R0 := hid r0; have R1 := hid r1; have R2 := hid r2; have HB2 := hid hB; have HLT := hid hlt
     clear r0 r1 r2 hB hlt hOk
     gi_wp2_with fail
     refine ⟨(((KeepsOthers.setCell _ _ _).trans (KeepsOthers.setCell _ _ _)).trans (KeepsOthers.setCell _ _ _)).from _, ⟨rfl, HLT.out, ?_, ?_, ?_⟩, ?_⟩
     ·exact ((R0.out.set 0 _).other (by simp) _).other (by simp <;> omega) _
     ·exact ((R1.out.other (by simp) _).set 0 _).other (by simp) _
     ·exact ((R2.out.other (by simp <;> omega) _).other (by simp) _).set 0 _
     ·exact ((HB2.out.setCell (by simp) _).setCell (by simp) _).setCell (by simp <;> omega) _
    case done =>
     rintro D' xs W hD hS ⟨⟨hx, r0, r1, r2⟩, hB⟩ hK
     have hz := hS hx
     rw [HHH.out, HLN.out] at hz
     have HZ3 : Hid (z = (-1, true)) := by
      show z = _
      rw [HZZ.out]
      unfold fsV
      dsimp only
      rw [if_pos hz]
     have e0 := r0.cell 0
     have e1 := r0.free 0
     have e2 := r1.cell 0
     have e3 := r1.free 0
     have e4 := r2.cell 0
     have e5 := r2.free 0
     simp at e0 e2 e4
     have R0 := hid r0; have R1 := hid r1; have R2 := hid r2; have HB2 := hid hB; have HK := hid hK; have HDD := hid hD
     clear r0 r1 r2 hB hx hS hz hK hD
     gi_wp2_with fail
     have q1 := ((R0.out.set 0 (.int .i64 (-1))).other (a := ⟨w.heap.size + 1, 0, none⟩) (by simp) (.bool true)).other (a := ⟨w.heap.size + 1 + 1, 0, none⟩) (by simp <;> omega) (.int .i64 0)
     have q2 := ((R1.out.other (a := ⟨w.heap.size, 0, none⟩) (by simp) (.int .i64 (-1))).set 0 (.bool true)).other (a := ⟨w.heap.size + 1 + 1, 0, none⟩) (by simp) (.int .i64 0)
     have q3 := ((R2.out.other (a := ⟨w.heap.size, 0, none⟩) (by simp <;> omega) (.int .i64 (-1))).other (a := ⟨w.heap.size + 1, 0, none⟩) (by simp) (.bool true)).set 0 (.int .i64 0)
     have hk3 := ((((KeepsOthers.setCell W ⟨w.heap.size, 0, none⟩ (.int .i64 (-1))).trans (KeepsOthers.setCell _ ⟨w.heap.size + 1, 0, none⟩ (.bool true))).trans (KeepsOthers.setCell _ ⟨w.heap.size + 1 + 1, 0, none⟩ (.int .i64 0)))).same D' _ HK.out rfl
     have p1 := (q1.put hk3 (.deferred none)).cell 0
     have p2 := (q2.put hk3 (.deferred none)).cell 0
     have p3 := (q3.put hk3 (.deferred none)).cell 0
     simp at p1 p2 p3
     have h9 := HDD.out; have h8 := LG.out
     refine marks_end hk3 (v := .tuple #[.int .i64 (-1), .bool true, .int .i64 0]) (by simp [results, Tryz.results12, go_sem, p1, p2, p3]) ⟨by rw [HZ3.out], ?_⟩
     exact (((HB2.out.setCell (by simp) _).setCell (by simp) _).setCell (by simp <;> omega) _).trans (belowK_b (w := w) (Nat.le_refl _) _ D' _ _ (by omega) hk3 rfl rfl)
    case stop =>
     rintro D' c p W hD - ⟨⟨rfl, hlt, r0, r1, r2⟩, hB⟩ hK
     have HZ3 : Hid (z = ((hh : Int), true)) := by
      show z = _
      rw [HZZ.out]
      unfold fsV
      dsimp only
      rw [if_neg (by omega)]
     have p1 := (r0.put hK (.deferred none)).cell 0
     have p2 := (r1.put hK (.deferred none)).cell 0
     have p3 := (r2.put hK (.deferred none)).cell 0
     simp at p1 p2 p3
     have HB2 := hid hB; have HK := hid hK; have HDD := hid hD
     clear r0 r1 r2 hB hlt hK hD
     gi_wp2_with fail
     have h9 := HDD.out; have h8 := LG.out
     refine marks_end HK.out (v := .tuple #[.int .i64 (hh : Nat), .bool true, .int .i64 0]) (by simp [results, Tryz.results12, go_sem, p1, p2, p3]) ⟨by rw [HZ3.out], ?_⟩
     exact HB2.out.trans (belowK_b (w := w) (Nat.le_refl _) _ D' _ _ (by omega) HK.out rfl rfl)
theorem sp_First (w : World) (v u : Value) (c : List Int) (thr : Int) (a r : ByteArray) (b : List ByteArray) (hv : Row w v (zs c)) (hu : Row w u (strs b)) (ha : a.size ≤ 100000) (hr : r.size ≤ 100000) (hb : ∀ x ∈ b, x.size ≤ 100000000) (hL : Lay w) :
 Calls Tryz.prog 12 #[v, .int .i64 thr, .string a, .string r, u] w fun e w' => e = .returned (.tuple #[.int .i64 (fsA c thr a r b).1, .bool (fsA c thr a r b).2, .int .i64 (fsE c thr a r b)]) ∧ Below w.heap.size w w' := by
 by_cases h0 : fsE c thr a r b = 0
 ·cases b with
  | nil => exact absurd (fsE_ok h0).len (by simp)
  | cons b0 bs =>
   rw [h0]
   exact sp_First_ok w v u c thr a r b0 bs hv hu ha hr hb hL h0
 ·exact sp_First_bad w v u c thr a r b hv hu ha hr hb hL h0
end Go.Proofs.YtlmnpocifldpmaaGreatDoor
