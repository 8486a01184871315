/- Texts that the proof rests on, merged: En, Gl1, Gl2, Gl3, Ol, Gd1, Gd2, Sw2, AtZ, Df0, KoA, Sa6, Fd9, Na6, Byd, Nz0. -/
import Derived.Test.YtgphopkifomffaaGreatDoorMp4
import Derived.Maps.RangeWalk
import Derived.Maps.StringElems
import Derived.Maps.OwnSet
import Derived.Deep.DeepCutAuto
import Derived.Lib.SliceRun
import Derived.Deep.AppendLies
import Derived.Maps.AppendAt
import Derived.WalkLawsBesides
import Derived.IntWalk
set_option linter.unusedVariables false
set_option linter.unusedSimpArgs false
set_option linter.unusedSectionVars false
set_option maxRecDepth 100000
set_option maxHeartbeats 8000000
namespace Go.Proofs.YtgphopkifomffaaGreatDoor
open Go.RowKit
open Go.Shelf
open Go.Lib (decDigits nDigits)
structure EnS (W : World) (gt gO gN gD g1 g2 n r : Nat) (rv : Value) (gs : List Nat) (O nx dn : List Nat) (os zs : Nat → Bool) (f : Nat → List Nat) : Prop where
 tab : TabO W (gt + 1) gt rv (gs ++ [gD]) n r f
 o : NRowT W gO O
 nx : NRowT W gN nx
 dn : NRowT W gD dn
 b1 : Blk W g1 (allB os n).toArray 4
 b2 : Blk W g2 (allB zs n).toArray 4
structure EnD (gt gO gN gD g1 g2 r : Nat) (rv : Value) (gs : List Nat) : Prop where
 tN : gN ≠ gt
 tD : gD ≠ gt
 rN : rv.ownBlock ≠ some gN
 rD : rv.ownBlock ≠ some gD
 ND : gN ≠ gD
 oN : gO ≠ gN
 oD : gO ≠ gD
 n1 : gN ≠ g1
 n2 : gN ≠ g2
 d1 : gD ≠ g1
 d2 : gD ≠ g2
 sN : ∀ i g, i < r → (gs ++ [gD])[i]? = some g → gN ≠ g
 sD : ∀ i g, i < r → (gs ++ [gD])[i]? = some g → gD ≠ g
theorem EnS.call {W W' : World} {gt gO gN gD g1 g2 n r : Nat} {rv : Value} {gs : List Nat} {O nx dn : List Nat} {os zs : Nat → Bool} {f : Nat → List Nat} (h : EnS W gt gO gN gD g1 g2 n r rv gs O nx dn os zs f) (hb : Below W.heap.size W W') : EnS W' gt gO gN gD g1 g2 n r rv gs O nx dn os zs f :=
 ⟨h.tab.call hb, h.o.call hb, h.nx.call hb, h.dn.call hb, h.b1.call hb, h.b2.call hb⟩
theorem EnS.setN {W : World} {gt gO gN gD g1 g2 n r : Nat} {rv : Value} {gs : List Nat} {O nx dn : List Nat} {os zs : Nat → Bool} {f : Nat → List Nat} (h : EnS W gt gO gN gD g1 g2 n r rv gs O nx dn os zs f) (d : EnD gt gO gN gD g1 g2 r rv gs) (i x : Nat) : EnS (W.setCell ⟨gN, i, none⟩ (.string (numB x))) gt gO gN gD g1 g2 n r rv gs O (nx.set i x) dn os zs f :=
 ⟨h.tab.other d.tN d.rN d.sN _, h.o.other d.oN.symm _, h.nx.set i x, h.dn.other d.ND _, h.b1.other d.n1 _, h.b2.other d.n2 _⟩
theorem EnS.setD {W : World} {gt gO gN gD g1 g2 n r : Nat} {rv : Value} {gs : List Nat} {O nx dn : List Nat} {os zs : Nat → Bool} {f : Nat → List Nat} (h : EnS W gt gO gN gD g1 g2 n r rv gs O nx dn os zs f) (d : EnD gt gO gN gD g1 g2 r rv gs) (i x : Nat) : EnS (W.setCell ⟨gD, i, none⟩ (.string (numB x))) gt gO gN gD g1 g2 n r rv gs O nx (dn.set i x) os zs f :=
 ⟨h.tab.other d.tD d.rD d.sD _, h.o.other d.oD.symm _, h.nx.other d.ND.symm _, h.dn.set i x, h.b1.other d.d1 _, h.b2.other d.d2 _⟩
theorem pass_bd {c : Nat → Bool} {N D n r : Nat} {F : Nat → Nat} (hn : n ≤ 32) (hr : r ≤ 32) (hF : aOut c (opnL N D n r) n (n + 1) = fnL F n) (hB : ∀ s, s ≤ n → F s ≤ 2 ^ (6 * (r + 1))) {i j k : Nat} (hi : i ≤ n) (hij : i + j ≤ n + 1) (hk : k ≤ n) : (aIn c ((opnL N D n r).getD i 0) i j (aOut c (opnL N D n r) n i)).getD k 0 ≤ 2 ^ 200 := by
 refine Nat.le_trans (aIn_le hi hij hk) ?_
 rw [hF, fnL_get hk]
 exact Nat.le_trans (hB k hk) (Nat.pow_le_pow_right (by omega) (by omega))
def EndsOut (w : World) (n N D : Nat) (e : Ending) (w' : World) : Prop := ∃ gt, e = .returned (.pointer (some ⟨gt, 0, none⟩)) ∧ w.heap.size ≤ gt ∧ TabR w' gt n (ednL N D n)
theorem blk_keep {w w' : World} {g : Nat} {cs : Array Value} {t : TypeId} (h : Blk w g cs t) (e : w'.heap[g]? = w.heap[g]?) : Blk w' g cs t := e.trans h
theorem tabR_of {W : World} {H gt : Nat} {rv : Value} {gs : List Nat} {n : Nat} {f : Nat → List Nat} (h : TabO W H gt rv gs n (n + 1) f) (hl : gs.length = n + 1) (hf : ∀ i, (f i).length = n + 1) (hn : n ≤ 1000) : TabR W gt n f := by
 obtain ⟨g, cap, rfl⟩ : ∃ g c, rv = .slice (some ⟨g, 0, none⟩) (n + 1) c := by
  have := h.own
  rw [hl] at this
  exact ownsRow_succ this
 obtain ⟨a, c, e, h1, h2, h3⟩ := (Row.of_owns h.own).ex
 simp only [Value.slice.injEq] at e
 obtain ⟨rfl, -, rfl⟩ := e
 rw [List.length_map, hl] at h1
 have c0 := h.blk.cell 0
 have c1 := h.blk.cell 1
 simp at c0 c1
 refine ⟨fun i _ => hf i, g, cap, h1, by unfold maxLen at h2; omega, c0, c1, fun i hi => ?_⟩
 obtain ⟨gr, hgr⟩ : ∃ g, gs[i]? = some g := ⟨_, List.getElem?_eq_getElem (by omega)⟩
 obtain ⟨g', o', e1, -, e2⟩ := h3 i (rowV n gr) (by rw [List.getElem?_map, hgr]; rfl)
 simp only [Option.some.injEq, Addr.mk.injEq] at e1
 obtain ⟨rfl, rfl, -⟩ := e1
 rw [Nat.zero_add] at e2
 exact ⟨gr, e2, h.rows i gr (by omega) hgr⟩
theorem g_ends (w : World) (a : ByteArray) (n N D : Nat) (ha : a.size ≤ 100000) (he : gPE a = 0) (hn : n ≤ 32) (hN : bN (cW a) = N) (hD : bN (qD a) = D) (hND : N < D) (hL : Lay w) :
 Calls Tryz.prog 145 #[.string a, .int .i64 n] w fun e w' => EndsOut w n N D e w' ∧ Below w.heap.size w w' := by
 have HS := hid (g_sides w a n N D ha he (by omega) hN hD hND hL)
 have HR := fun V g h => hid (s_Repeat V g (n + 1) ⟨#[48]⟩ (by omega) (by omega) h)
 have HTR := fun V gt rv gs r f (h : TabO V (gt + 1) gt rv gs n r f) (h1 : r ≤ gs.length) (h2 : gs.length ≤ 1000) (h3 : gt + 1 ≤ V.heap.size) => hid (tb_row V (gt + 1) gt rv gs n r f h h1 h2 (by omega) h3)
 have HL := hid hL; have HLL := hid hL.lt; have HN := hid hn
 have wn : IntKind.i64.wrap ((n : Int) + 1) = ((n + 1 : Nat) : Int) := by rw [IntWalk.i64_in _ ⟨by omega, by omega⟩]; omega
 have NX : Hid (∀ r, aOut (oneJ N D) (opnL N D n r) n (n + 1) = opnL N D n (r + 1)) := fun r => opnL_succ N D n r
 have DN : Hid (∀ r, aOut (zeroJ N D) (opnL N D n r) n (n + 1) = ednL N D n r) := fun r => ednL_is N D n r
 have BN : Hid (∀ r i j k, r ≤ n → i ≤ n → i + j ≤ n + 1 → k ≤ n → (aIn (oneJ N D) ((opnL N D n r).getD i 0) i j (aOut (oneJ N D) (opnL N D n r) n i)).getD k 0 ≤ 2 ^ 200) := fun r i j k h1 h2 h3 h4 => pass_bd (F := opn N D (r + 1)) hn (by omega) (opnL_succ N D n r) (fun s hs => opn_bd hn (r + 1) s hs) h2 h3 h4
 have BD : Hid (∀ r i j k, r ≤ n → i ≤ n → i + j ≤ n + 1 → k ≤ n → (aIn (zeroJ N D) ((opnL N D n r).getD i 0) i j (aOut (zeroJ N D) (opnL N D n r) n i)).getD k 0 ≤ 2 ^ 200) := fun r i j k h1 h2 h3 h4 => pass_bd (F := edn N D r) hn (by omega) (ednL_is N D n r) (fun s hs => edn_bd hn r s hs) h2 h3 h4
 have BO : Hid (∀ r i, r ≤ n → i ≤ n → (opnL N D n r).getD i 0 ≤ 2 ^ 200) := fun r i h1 h2 => by
  unfold opnL
  rw [fnL_get h2]
  exact Nat.le_trans (opn_bd hn r i h2) (Nat.pow_le_pow_right (by omega) (by omega))
 have OZ : Hid ((List.replicate (n + 1) 0).set 0 1 = opnL N D n 0) := opnL_zero N D n
 have OL : Hid (∀ r, (opnL N D n r).length = n + 1) := fun r => fnL_length _ _
 obtain ⟨OF, hOF⟩ : ∃ F, opnL N D n = F := ⟨_, rfl⟩
 obtain ⟨EF, hEF⟩ : ∃ F, ednL N D n = F := ⟨_, rfl⟩
 obtain ⟨os, hos⟩ : ∃ f, oneJ N D = f := ⟨_, rfl⟩
 obtain ⟨zs, hzs⟩ : ∃ f, zeroJ N D = f := ⟨_, rfl⟩
 rw [hOF] at NX DN BN BD BO OZ OL
 rw [hEF] at DN
 rw [hos] at NX BN
 rw [hzs] at DN BD
 have HOS := hid hos; have HZS := hid hzs; have HEF := hid hEF
 clear ha he hn hN hD hND hL hos hzs hOF hEF
 go_enter Tryz.func145, Tryz.ntmps145
 go_wp2_with fail
 refine HS.out.mono ?_; rintro e w1 ⟨⟨v1, v2, rfl, ⟨g1, g2, rfl, rfl, h3, h4, h5, hg1, hg2⟩⟩, hb1⟩
 rw [HOS.out] at hg1
 rw [HZS.out] at hg2
 have G1 := hid hg1; have G2 := hid hg2; have B1 := hid hb1; have N1 := hid (show g1 < w1.heap.size from Blk.lt hg1); have N2 := hid (show g2 < w1.heap.size from Blk.lt hg2)
 have z1 := hid hb1.size
 clear hg1 hg2 hb1 h3 h4 h5 HS
 go_wp2_with fail
 have T1 := hid (Blk.new w1 #[.slice none 0 0, .string ⟨#[48]⟩] 177)
 have A1 := hid ((Below.refl w1.heap.size w1).alloc (Nat.le_refl _) (.cells #[.slice none 0 0, .string ⟨#[48]⟩] 177))
 obtain ⟨wt, hwt⟩ : ∃ W, w1.alloc (.cells #[.slice none 0 0, .string ⟨#[48]⟩] 177) = W := ⟨_, rfl⟩
 have zt : Hid (wt.heap.size = w1.heap.size + 1) := by show wt.heap.size = _; rw [← hwt]; simp
 rw [hwt] at T1 A1 ⊢
 obtain ⟨gt, hgt⟩ : ∃ g, w1.heap.size = g := ⟨_, rfl⟩
 have HGT := hid hgt
 have T1' : Hid (Blk wt gt #[.slice none 0 0, .string ⟨#[48]⟩] 177) := by show Blk _ _ _ _; rw [← hgt]; exact T1.out
 try rw [hgt]
 clear T1 hwt hgt
 have C0 : (wt.alloc (.cells #[.string ⟨#[48]⟩] 22)).cell? ⟨gt + 1, 0, none⟩ = some (.string ⟨#[48]⟩) := by
  have := (Blk.new wt #[.string ⟨#[48]⟩] 22).cell 0
  rw [show wt.heap.size = gt + 1 by rw [zt.out, HGT.out]] at this
  exact this
 refine (HR _ _ C0).out.mono ?_; rintro e w2 ⟨rfl, hg7, hb2⟩
 clear C0
 obtain ⟨g0, h7⟩ : ∃ g, (wt.alloc (.cells #[.string ⟨#[48]⟩] 22)).heap.size = g := ⟨_, rfl⟩
 rw [h7] at hg7 ⊢
 have R7 := hid (NRowT.zeros hg7)
 have a1 := (Below.refl wt.heap.size wt).alloc (Nat.le_refl _) (.cells #[.string ⟨#[48]⟩] 22)
 have b2 := hid (bnext a1 hb2)
 have K7 := hid (show wt.heap.size < g0 by rw [← h7]; simp)
 have L7 := hid (show g0 < w2.heap.size from Blk.lt hg7)
 have Bt := hid (bnext B1.out A1.out)
 have B2 := hid (bnext Bt.out b2.out)
 have G12 := hid ((G1.out.call A1.out).call b2.out); have G22 := hid ((G2.out.call A1.out).call b2.out)
 have T2 := hid (T1'.out.call b2.out)
 clear hg7 hb2 a1 h7
 have k0 : w2.cell? ⟨g0, 0, none⟩ = some (.string ⟨#[48]⟩) := by
  refine (R7.out.cell (i := 0) (by simp)).trans ?_
  rw [← numB_zero]; simp [List.getD_eq_getElem?_getD]
 have k1 := R7.out.free 0
 have z0 : (0 : Int) < ((n + 1 : Nat) : Int) := by omega
 have z0' : (0 : Int) < (n : Int) + 1 := by omega
 go_wp2_with fail
 obtain ⟨W2, hW2⟩ : ∃ W, w2.setCell ⟨g0, 0, none⟩ (.string ⟨#[49]⟩) = W := ⟨_, rfl⟩
 have S0 : Hid (NRowT W2 g0 (OF 0)) := by
  show NRowT _ _ _
  rw [← hW2, ← numB_one, ← OZ.out]
  exact R7.out.set 0 1
 have S1 : Hid (Blk W2 g1 (allB os n).toArray 4) := by rw [← hW2]; exact G12.out.other (by have := K7.out; have := N1.out; have := zt.out; simp; omega) _
 have S2 : Hid (Blk W2 g2 (allB zs n).toArray 4) := by rw [← hW2]; exact G22.out.other (by have := K7.out; have := N2.out; have := zt.out; simp; omega) _
 have ST : Hid (Blk W2 gt #[.slice none 0 0, .string ⟨#[48]⟩] 177) := by rw [← hW2]; exact T2.out.other (by have := K7.out; have := HGT.out; have := zt.out; simp; omega) _
 have SB : Hid (Below w.heap.size w W2) := by rw [← hW2]; exact B2.out.setCell (by have := K7.out; have := z1.out; have := zt.out; simp; omega) _
 have TO : Hid (TabO W2 (gt + 1) gt (.slice none 0 0) [] n 0 EF) := ⟨ST.out, World.ownsRow_nil _ _ _ _, fun i g hi => absurd hi (by omega), by simp [Value.ownBlock], fun i g hi => absurd hi (by omega), fun i g hi => absurd hi (by omega)⟩
 have D1 : Hid (g1 < gt ∧ g2 < gt ∧ w.heap.size ≤ gt) := ⟨by have := N1.out; have := HGT.out; omega, by have := N2.out; have := HGT.out; omega, by have := z1.out; have := HGT.out; omega⟩
 have D2 : Hid (gt < g0) := by show gt < g0; have := K7.out; have := HGT.out; have := zt.out; omega
 rw [hW2]
 clear hW2 k0 k1 z0 z0' R7 G12 G22 T2 B2 b2 K7 L7 Bt T1' A1 G1 G2 B1 N1 N2 z1 zt HGT ST
 go_loopw [8, 29] (fun oo ii wr => ∃ r gO rv gs, oo = rowV n gO ∧ ii = .int .i64 (r : Nat) ∧ r ≤ n + 1 ∧ Hid (gs.length = r ∧ gt < gO ∧ rv.ownBlock ≠ some gO) ∧ Hid (TabO wr (gt + 1) gt rv gs n r EF) ∧ Hid (NRowT wr gO (OF r)) ∧ Hid (Blk wr g1 (allB os n).toArray 4) ∧ Hid (Blk wr g2 (allB zs n).toArray 4) ∧ Hid (Below w.heap.size w wr)) (fun oo ii wr => n + 1 - (intOf ii).toNat)
 case atStart => exact ⟨0, g0, _, [], rfl, rfl, Nat.zero_le _, ⟨rfl, D2.out, by simp [Value.ownBlock]⟩, TO, S0, S1, S2, SB⟩
 case round =>
  obtain ⟨r, gO, rv, gs, rfl, rfl, hr, hM, hT, hO, hg1, hg2, hB⟩ := hrel
  by_cases hlt : r < n + 1
  ·have q0 : decide ((r : Int) < ((n + 1 : Nat) : Int)) = true := by simp; omega
   have dr : decide ((r : Int) < (n : Int) + 1) = true := by simp; omega
   have HR0 := hid hlt
   clear hr hlt
   unfold rowV
   go_wp2_with fail
   refine (HTR _ _ _ _ _ _ hT.out (by have := hM.out.1; omega) (by have := hM.out.1; have := HR0.out; have := HN.out; omega) hT.out.blk.lt).out.mono ?_; rintro e w3 ⟨gD, rv', rfl, hgD, hND, hT3, hne, hat, hK⟩
   simp only [rowV]
   have T3 := hid hT3; have ND3 := hid hND; have NE3 := hid hne
   have zD := hid hgD
   have LD := hid (show gD < w3.heap.size from hND.lt')
   have keep : ∀ b, b < wr.heap.size → b ≠ gt → rv.ownBlock ≠ some b → w3.heap[b]? = wr.heap[b]? := fun b h1 h2 h3 => hK.block b h1 h2 (fun e => h3 e.symm)
   have lO : gO < wr.heap.size := hO.out.lt'
   have l1 : g1 < wr.heap.size := Blk.lt hg1.out
   have l2 : g2 < wr.heap.size := Blk.lt hg2.out
   have rvge : ∀ b, rv.ownBlock = some b → gt + 1 ≤ b := fun b hb => (hT.out.own.lt b hb).1
   have O3 : Hid (NRowT w3 gO (OF r)) := blk_keep hO.out (keep gO lO (by have := hM.out.2.1; omega) hM.out.2.2)
   have G13 : Hid (Blk w3 g1 (allB os n).toArray 4) := blk_keep hg1.out (keep g1 l1 (by have := D1.out.1; omega) (fun e => by have := rvge _ e; have := D1.out.1; omega))
   have G23 : Hid (Blk w3 g2 (allB zs n).toArray 4) := blk_keep hg2.out (keep g2 l2 (by have := D1.out.2.1; omega) (fun e => by have := rvge _ e; have := D1.out.2.1; omega))
   have B3 : Hid (Below w.heap.size w w3) := ⟨hK.os.trans hB.out.os, hK.tape.trans hB.out.tape, hK.output.trans hB.out.output, Nat.le_trans hB.out.size hK.size, fun k hk => by
    have s0 := hB.out.size
    have d := D1.out.2.2
    exact (keep k (by omega) (by omega) (fun e => by have := rvge _ e; omega)).trans (hB.out.block k hk)⟩
   have M3 : Hid (gD ≠ gO ∧ gD ≠ g1 ∧ gD ≠ g2 ∧ gD ≠ gt ∧ rv'.ownBlock ≠ some gO) := by
    refine ⟨by omega, by omega, by omega, by have := hT.out.blk.lt; omega, ?_⟩
    rcases hat with e | ⟨b, e, hb⟩
    ·rw [e]; exact hM.out.2.2
    ·rw [e]; intro e'; have := Option.some.inj e'; omega
   have SG : Hid (∀ i g, i < r → (gs ++ [gD])[i]? = some g → gD ≠ g ∧ g < w3.heap.size) := fun i g hi hg => by
    have hl := hM.out.1
    have hg' := hg
    rw [List.getElem?_append_left (by omega)] at hg'
    have h1 := (hT.out.rows i g hi hg').lt'
    have h2 := hK.size
    exact ⟨by omega, by omega⟩
   clear hT3 hND hne hgD hat hK keep lO l1 l2 rvge
   go_wp2_with fail
   refine (HR _ _ ((Blk.new w3 _ _).cell 0)).out.mono ?_; rintro e w4 ⟨rfl, hg7, hb2⟩
   obtain ⟨gN, h7⟩ : ∃ g, (w3.alloc (.cells #[.string ⟨#[48]⟩] 22)).heap.size = g := ⟨_, rfl⟩
   rw [h7] at hg7 ⊢
   have R7 := hid (NRowT.zeros hg7)
   have a1 := (Below.refl w3.heap.size w3).alloc (Nat.le_refl _) (.cells #[.string ⟨#[48]⟩] 22)
   have b4 := hid (bnext a1 hb2)
   have K7 := hid (show w3.heap.size < gN by rw [← h7]; simp)
   have T4 := hid (T3.out.call b4.out)
   have B4 := hid (bnext B3.out b4.out)
   have QD := hid (show w.heap.size ≤ gD by have := zD.out; have := hB.out.size; omega)
   have QN := hid (show w.heap.size ≤ gN by have := K7.out; have := B3.out.size; omega)
   have l1 : g1 < w3.heap.size := Blk.lt G13.out
   have l2 : g2 < w3.heap.size := Blk.lt G23.out
   have lO : gO < w3.heap.size := O3.out.lt'
   have lT : gt < w3.heap.size := T3.out.blk.lt
   have lR : ∀ b, rv'.ownBlock = some b → b < w3.heap.size := fun b hb => (T3.out.own.lt b hb).2
   have ED : Hid (EnD gt gO gN gD g1 g2 r rv' gs) := by
    have k := K7.out
    have d := LD.out
    refine ⟨by omega, M3.out.2.2.2.1, fun e => ?_, NE3.out, by omega, by omega, fun e => M3.out.1 e.symm, by omega, by omega, M3.out.2.1, M3.out.2.2.1, fun i g hi hg => ?_, fun i g hi hg => (SG.out i g hi hg).1⟩
    ·have := lR _ e; omega
    ·have := (SG.out i g hi hg).2; omega
   have ES : Hid (EnS w4 gt gO gN gD g1 g2 n r rv' gs (OF r) (List.replicate (n + 1) 0) (List.replicate (n + 1) 0) os zs EF) := ⟨T4.out, O3.out.call b4.out, R7.out, ND3.out.call b4.out, G13.out.call b4.out, G23.out.call b4.out⟩
   have NO : Hid (rv'.ownBlock ≠ some gN) := fun e => by have := lR _ e; have := K7.out; omega
   have DG : Hid (gt < gN) := by show gt < gN; have := K7.out; omega
   have RL : Hid (r ≤ n) := by show r ≤ n; have := HR0.out; omega
   have LG := hid hM.out.1
   clear hg7 hb2 a1 h7 l1 l2 lO lT lR T3 ND3 NE3 zD LD O3 G13 G23 B3 M3 SG R7 K7 T4 hM hT hO hg1 hg2 hB b4 q0
   -- the state of this round
   have NXr := hid (NX.out r); have DNr := hid (DN.out r); have OLr := hid (OL.out r)
   have BNr := hid (fun i j k => BN.out r i j k RL.out); have BDr := hid (fun i j k => BD.out r i j k RL.out); have BOr := hid (fun i => BO.out r i RL.out)
   obtain ⟨O, hO⟩ : ∃ O, OF r = O := ⟨_, rfl⟩
   rw [hO] at NXr DNr OLr BNr BDr BOr ES
   clear hO
   go_wp2_with fail
   go_loopw [41] (fun ii wr => ∃ i : Nat, ii = .int .i64 (i : Nat) ∧ i ≤ n + 1 ∧ Hid (EnS wr gt gO gN gD g1 g2 n r rv' gs O (aOut os O n i) (aOut zs O n i) os zs EF) ∧ Hid (Below w.heap.size w wr)) (fun ii wr => n + 1 - (intOf ii).toNat)
   case atStart => exact ⟨0, rfl, Nat.zero_le _, ES, B4⟩
   case round =>
    clear ES
    obtain ⟨i, rfl, hi, hS, hB⟩ := hrel
    by_cases hlt : i < n + 1
    ·have q0 : decide ((i : Int) < ((n + 1 : Nat) : Int)) = true := by simp; omega
     have di : decide ((i : Int) < (n : Int) + 1) = true := by simp; omega
     have f0 : (0 : Int) ≤ (i : Int) := by omega
     have f1 : (i : Int) < ((n + 1 : Nat) : Int) := by omega
     have f1' : (i : Int) < (n : Int) + 1 := by omega
     have f2 : (i : Int) ≤ 1000 := by have := HN.out; omega
     have IL := hid hlt
     clear hi hlt
     go_wp2_with fail
     obtain ⟨x, hx⟩ : ∃ x, O.getD i 0 = x := ⟨_, rfl⟩
     obtain ⟨wo, rfl⟩ : ∃ wo : World, wo = wr := ⟨_, rfl⟩
     have hnx : Hid (aOut os O n (i + 1) = aIn os x i (n + 1 - i) (aOut os O n i)) := by show _ = _; rw [aOut, hx]
     have hdn : Hid (aOut zs O n (i + 1) = aIn zs x i (n + 1 - i) (aOut zs O n i)) := by show _ = _; rw [aOut, hx]
     by_cases hx0 : x = 0
     ·have k0 : wo.cell? ⟨gO, i, none⟩ = some (.string (numB x)) := by rw [← hx]; exact hS.out.o.cell (by rw [OLr.out]; exact IL.out)
      have q1 : ((numB x).toList == [48]) = true := by rw [hx0, numB_zero]; exact lit_zero
      have e1 : Hid (aOut os O n (i + 1) = aOut os O n i) := by show _ = _; rw [hnx.out, hx0, aIn_zero]
      have e2 : Hid (aOut zs O n (i + 1) = aOut zs O n i) := by show _ = _; rw [hdn.out, hx0, aIn_zero]
      obtain ⟨sx, hsx⟩ : ∃ s, numB x = s := ⟨_, rfl⟩
      rw [hsx] at k0 q1
      clear hx hx0 hsx
      go_loopw [12] (fun jj wq => jj = .int .i64 0 ∧ wq = wo) (fun jj wq => 0)
      case atStart => exact ⟨rfl, rfl⟩
      case round =>
       obtain ⟨rfl, rfl⟩ := hrel
       go_wp2_with fail
       go_roundw
       case rel => exact ⟨i + 1, by go_num, by have := IL.out; omega, by rw [e1.out, e2.out]; exact hS, hB⟩
       case measure => simp [intOf] <;> (have := IL.out; omega)
     ·have q1 : ((numB x).toList == [48]) = false := ne_lit (l := [48]) (by rw [← numB_zero]; exact numB_ne hx0)
      have AOL : Hid (∀ c, (aOut c O n i).length = n + 1) := fun c => aOut_length c O n i
      have BNi := hid (fun j k => BNr.out i j k (by have := IL.out; omega)); have BDi := hid (fun j k => BDr.out i j k (by have := IL.out; omega))
      have hxb : x ≤ 2 ^ 200 := by rw [← hx]; exact BOr.out i (by have := IL.out; omega)
      have HXB := hid hxb
      have HX := hid hx
      rw [hx] at BNi BDi
      obtain ⟨nx0, hnx0⟩ : ∃ l, aOut os O n i = l := ⟨_, rfl⟩
      obtain ⟨dn0, hdn0⟩ : ∃ l, aOut zs O n i = l := ⟨_, rfl⟩
      have HNL : Hid (∀ j, (aIn os x i j nx0).length = n + 1) := fun j => by rw [aIn_length, ← hnx0]; exact AOL.out os
      have HDL : Hid (∀ j, (aIn zs x i j dn0).length = n + 1) := fun j => by rw [aIn_length, ← hdn0]; exact AOL.out zs
      rw [hnx0] at BNi hnx hS
      rw [hdn0] at BDi hdn hS
      obtain ⟨sx, hsx⟩ : ∃ s, numB x = s := ⟨_, rfl⟩
      rw [hsx] at q1
      have HSX := hid hsx
      clear hx hx0 hsx hnx0 hdn0 hxb AOL
      go_loopw [12] (fun jj wq => ∃ j : Nat, jj = .int .i64 (j : Nat) ∧ i + j ≤ n + 1 ∧ Hid (EnS wq gt gO gN gD g1 g2 n r rv' gs O (aIn os x i j nx0) (aIn zs x i j dn0) os zs EF) ∧ Hid (Below w.heap.size w wq)) (fun jj wq => n + 1 - (intOf jj).toNat)
      case atStart => exact ⟨0, rfl, by have := IL.out; omega, hS, hB⟩
      case round =>
       clear hS hB
       obtain ⟨j, rfl, hj, hS, hB⟩ := hrel
       have k0 : wr.cell? ⟨gO, i, none⟩ = some (.string sx) := by
        refine (hS.out.o.cell (by rw [OLr.out]; exact IL.out)).trans ?_
        rw [HX.out, HSX.out]
       by_cases hlt : i + j ≤ n
       ·have q2 : decide ((i : Int) + (j : Int) ≤ (n : Int)) = true := by simp; omega
        have f5 : (0 : Int) ≤ (j : Int) := by omega
        have f6 : (j : Int) < ((n + 1 : Nat) : Int) := by omega
        have f6' : (j : Int) < (n : Int) + 1 := by omega
        have f7 : (j : Int) ≤ 1000 := by have := HN.out; omega
        have f8 : (i : Int) + (j : Int) < ((n + 1 : Nat) : Int) := by omega
        have f9 : (i : Int) + (j : Int) < (n : Int) + 1 := by omega
        have f10 : (0 : Int) ≤ (i : Int) + (j : Int) := by omega
        have c1 : wr.cell? ⟨g1, j, none⟩ = some (.bool (os j)) := (hS.out.b1.cell j).trans (by rw [List.getElem?_toArray, allB_get (by omega)])
        have c2 : wr.cell? ⟨g2, j, none⟩ = some (.bool (zs j)) := (hS.out.b2.cell j).trans (by rw [List.getElem?_toArray, allB_get (by omega)])
        have HLT := hid hlt
        obtain ⟨zj, hzj⟩ : ∃ b, zs j = b := ⟨_, rfl⟩
        obtain ⟨oj, hoj⟩ : ∃ b, os j = b := ⟨_, rfl⟩
        rw [hoj] at c1
        rw [hzj] at c2
        have HZJ := hid hzj; have HOJ := hid hoj
        clear hlt hj hzj hoj
        obtain ⟨y1, hy1⟩ : ∃ y, (aIn zs x i j dn0).getD (i + j) 0 = y := ⟨_, rfl⟩
        obtain ⟨y2, hy2⟩ : ∃ y, (aIn os x i j nx0).getD (i + j) 0 = y := ⟨_, rfl⟩
        have p2 : (2 : Nat) ^ 201 = 2 ^ 200 + 2 ^ 200 := by rw [show (201 : Nat) = 200 + 1 from rfl, Nat.pow_succ]
        have hxb := HXB.out
        have hy1b : y1 ≤ 2 ^ 200 := hy1 ▸ BDi.out j (i + j) (by have := HLT.out; omega) HLT.out
        have hy2b : y2 ≤ 2 ^ 200 := hy2 ▸ BNi.out j (i + j) (by have := HLT.out; omega) HLT.out
        have dx := two_pow_digits hxb (by omega)
        have P1 := fun V hV => hid (p_plus V y1 x (two_pow_digits hy1b (by omega)) dx (two_pow_digits (i := 201) (by rw [p2]; exact Nat.add_le_add hy1b hxb) (by omega)) hV)
        have P2 := fun V hV => hid (p_plus V y2 x (two_pow_digits hy2b (by omega)) dx (two_pow_digits (i := 201) (by rw [p2]; exact Nat.add_le_add hy2b hxb) (by omega)) hV)
        have t1 : wr.cell? ⟨gD, i + j, none⟩ = some (.string (numB y1)) := by rw [← hy1]; exact hS.out.dn.cell (by rw [HDL.out]; have := HLT.out; omega)
        have t2 : wr.cell? ⟨gN, i + j, none⟩ = some (.string (numB y2)) := by rw [← hy2]; exact hS.out.nx.cell (by rw [HNL.out]; have := HLT.out; omega)
        rw [HSX.out] at P1 P2
        obtain ⟨u1, hu1⟩ : ∃ s, numB y1 = s := ⟨_, rfl⟩
        obtain ⟨u2, hu2⟩ : ∃ s, numB y2 = s := ⟨_, rfl⟩
        rw [hu1] at P1 t1
        rw [hu2] at P2 t2
        have HY1 := hid hy1; have HY2 := hid hy2; have HU2 := hid hu2
        obtain ⟨m1, hm1⟩ : ∃ s, numB (y1 + x) = s := ⟨_, rfl⟩
        obtain ⟨m2, hm2⟩ : ∃ s, numB (y2 + x) = s := ⟨_, rfl⟩
        rw [hm1] at P1
        rw [hm2] at P2
        have HM1 := hid hm1; have HM2 := hid hm2
        have k1 := k0
        have k2 := k0
        have HOL := OLr
        clear hm1 hm2
        clear hy1 hy2 p2 hxb hy1b hy2b dx hu1 hu2
        cases zj
        ·have hD0 : Hid (aIn zs x i (j + 1) dn0 = aIn zs x i j dn0) := by show _ = _; rw [aIn, HZJ.out, addAt_false]
         cases oj
         ·have hN0 : Hid (aIn os x i (j + 1) nx0 = aIn os x i j nx0) := by show _ = _; rw [aIn, HOJ.out, addAt_false]
          go_wp2_with fail
          go_roundw
          case rel => exact ⟨j + 1, by go_num, by have := HLT.out; omega, by rw [hN0.out, hD0.out]; exact hS, hB⟩
          case measure => simp [intOf] <;> (have := HLT.out; omega)
         ·have hN0 : Hid (aIn os x i (j + 1) nx0 = (aIn os x i j nx0).set (i + j) (y2 + x)) := by show _ = _; rw [aIn, HOJ.out, addAt_true, HY2.out]
          go_wp2_with fail
          have ew : IntKind.i64.wrap ((i : Int) + (j : Int)) = (i : Int) + (j : Int) := by rw [IntWalk.i64_in _ ⟨by omega, by omega⟩]
          have et : ((i : Int) + (j : Int)).toNat = i + j := by omega
          refine held_lasts 15 2 [0, 1, 2, 3, 4, 5, 6, 7, 8, 9, 10, 11, 12, 13] 1 (fun W' => W'.cell? ⟨gN, i + j, none⟩ = some (.string u2) ∧ W'.cell? ⟨gO, i, none⟩ = some (.string sx)) (by kernel_rfl) rfl (by kernel_rfl) (by kernel_rfl) (by kernel_rfl) (by kernel_rfl) ⟨t2, k2⟩ ?_
          iterate 14
           refine ⟨_, rfl, ?_⟩
           apply Exists.intro
           refine ⟨.inl ⟨by rfl, ?_⟩, ?_⟩
           ·(intro W' hW'; obtain ⟨r1, r2⟩ := hW'; go_simp; try (with_reducible rfl))
           (dsimp only [Act.put]; try simp only [List.setIfInBounds_toArray, List.set_cons_zero, List.set_cons_succ])
          refine held_one (i := 14) (by kernel_rfl) (by rfl) (by rfl) ?_
          go_wp2_with fail
          refine (P2 _ (HL.out.below hB.out.drew HLL.out)).out.mono ?_; rintro e w5 ⟨rfl, hbc⟩
          have C2 := hid (show Below wr.heap.size wr w5 from (Below.refl _ _).drew.trans hbc)
          have E2 := hid (hS.out.call C2.out); have F2 := hid (hB.out.trans (C2.out.mono hB.out.size))
          have tc2 := (C2.out.cell (cell_lt t2)).trans t2
          have kc2 := (C2.out.cell (cell_lt k2)).trans k2
          clear hbc
          go_wp2_with fail
          refine ⟨⟨tc2, kc2⟩, ?_⟩
          refine wpAnyH_done (by kernel_rfl) ?_ _
          simp only [Only, ThenL, List.drop_succ_cons, List.drop_zero]
          have fz2 := E2.out.nx.free (i + j)
          clear kc2
          go_wp2_with fail
          try simp only [Only]
          go_roundw
          case rel => exact ⟨j + 1, by go_num, by have := HLT.out; omega, by rw [hN0.out, hD0.out, ← HM2.out]; exact E2.out.setN ED.out (i + j) (y2 + x), F2.out.setCell QN.out _⟩
          case measure => simp [intOf] <;> (have := HLT.out; omega)
        ·have hD0 : Hid (aIn zs x i (j + 1) dn0 = (aIn zs x i j dn0).set (i + j) (y1 + x)) := by show _ = _; rw [aIn, HZJ.out, addAt_true, HY1.out]
         cases oj
         ·have hN0 : Hid (aIn os x i (j + 1) nx0 = aIn os x i j nx0) := by show _ = _; rw [aIn, HOJ.out, addAt_false]
          go_wp2_with fail
          have ew : IntKind.i64.wrap ((i : Int) + (j : Int)) = (i : Int) + (j : Int) := by rw [IntWalk.i64_in _ ⟨by omega, by omega⟩]
          have et : ((i : Int) + (j : Int)).toNat = i + j := by omega
          refine held_lasts 15 2 [0, 1, 2, 3, 4, 5, 6, 7, 8, 9, 10, 11, 12, 13] 1 (fun W' => W'.cell? ⟨gD, i + j, none⟩ = some (.string u1) ∧ W'.cell? ⟨gO, i, none⟩ = some (.string sx)) (by kernel_rfl) rfl (by kernel_rfl) (by kernel_rfl) (by kernel_rfl) (by kernel_rfl) ⟨t1, k1⟩ ?_
          iterate 14
           refine ⟨_, rfl, ?_⟩
           apply Exists.intro
           refine ⟨.inl ⟨by rfl, ?_⟩, ?_⟩
           ·(intro W' hW'; obtain ⟨r1, r2⟩ := hW'; go_simp; try (with_reducible rfl))
           (dsimp only [Act.put]; try simp only [List.setIfInBounds_toArray, List.set_cons_zero, List.set_cons_succ])
          refine held_one (i := 14) (by kernel_rfl) (by rfl) (by rfl) ?_
          go_wp2_with fail
          refine (P1 _ (HL.out.below hB.out.drew HLL.out)).out.mono ?_; rintro e w5 ⟨rfl, hbc⟩
          have C1 := hid (show Below wr.heap.size wr w5 from (Below.refl _ _).drew.trans hbc)
          have E1 := hid (hS.out.call C1.out); have F1 := hid (hB.out.trans (C1.out.mono hB.out.size))
          have tc1 := (C1.out.cell (cell_lt t1)).trans t1
          have kc1 := (C1.out.cell (cell_lt k1)).trans k1
          clear hbc
          go_wp2_with fail
          refine ⟨⟨tc1, kc1⟩, ?_⟩
          refine wpAnyH_done (by kernel_rfl) ?_ _
          simp only [Only, ThenL, List.drop_succ_cons, List.drop_zero]
          have fz1 := E1.out.dn.free (i + j)
          clear kc1
          have S6 : Hid (EnS (w5.setCell ⟨gD, i + j, none⟩ (.string m1)) gt gO gN gD g1 g2 n r rv' gs O (aIn os x i j nx0) ((aIn zs x i j dn0).set (i + j) (y1 + x)) os zs EF) := by rw [← HM1.out]; exact E1.out.setD ED.out (i + j) (y1 + x)
          have c1s : (w5.setCell ⟨gD, i + j, none⟩ (.string m1)).cell? ⟨g1, j, none⟩ = some (.bool false) := (S6.out.b1.cell j).trans (by rw [List.getElem?_toArray, allB_get (by have := HLT.out; omega), HOJ.out])
          go_wp2_with fail
          try simp only [Only]
          go_roundw
          case rel => exact ⟨j + 1, by go_num, by have := HLT.out; omega, by rw [hN0.out, hD0.out]; exact S6, F1.out.setCell QD.out _⟩
          case measure => simp [intOf] <;> (have := HLT.out; omega)
         ·have hN0 : Hid (aIn os x i (j + 1) nx0 = (aIn os x i j nx0).set (i + j) (y2 + x)) := by show _ = _; rw [aIn, HOJ.out, addAt_true, HY2.out]
          go_wp2_with fail
          have ew : IntKind.i64.wrap ((i : Int) + (j : Int)) = (i : Int) + (j : Int) := by rw [IntWalk.i64_in _ ⟨by omega, by omega⟩]
          have et : ((i : Int) + (j : Int)).toNat = i + j := by omega
          refine held_lasts 15 2 [0, 1, 2, 3, 4, 5, 6, 7, 8, 9, 10, 11, 12, 13] 1 (fun W' => W'.cell? ⟨gD, i + j, none⟩ = some (.string u1) ∧ W'.cell? ⟨gO, i, none⟩ = some (.string sx)) (by kernel_rfl) rfl (by kernel_rfl) (by kernel_rfl) (by kernel_rfl) (by kernel_rfl) ⟨t1, k1⟩ ?_
          iterate 14
           refine ⟨_, rfl, ?_⟩
           apply Exists.intro
           refine ⟨.inl ⟨by rfl, ?_⟩, ?_⟩
           ·(intro W' hW'; obtain ⟨r1, r2⟩ := hW'; go_simp; try (with_reducible rfl))
           (dsimp only [Act.put]; try simp only [List.setIfInBounds_toArray, List.set_cons_zero, List.set_cons_succ])
          refine held_one (i := 14) (by kernel_rfl) (by rfl) (by rfl) ?_
          go_wp2_with fail
          refine (P1 _ (HL.out.below hB.out.drew HLL.out)).out.mono ?_; rintro e w5 ⟨rfl, hbc⟩
          have C1 := hid (show Below wr.heap.size wr w5 from (Below.refl _ _).drew.trans hbc)
          have E1 := hid (hS.out.call C1.out); have F1 := hid (hB.out.trans (C1.out.mono hB.out.size))
          have tc1 := (C1.out.cell (cell_lt t1)).trans t1
          have kc1 := (C1.out.cell (cell_lt k1)).trans k1
          clear hbc
          go_wp2_with fail
          refine ⟨⟨tc1, kc1⟩, ?_⟩
          refine wpAnyH_done (by kernel_rfl) ?_ _
          simp only [Only, ThenL, List.drop_succ_cons, List.drop_zero]
          have fz1 := E1.out.dn.free (i + j)
          clear kc1
          have S6 : Hid (EnS (w5.setCell ⟨gD, i + j, none⟩ (.string m1)) gt gO gN gD g1 g2 n r rv' gs O (aIn os x i j nx0) ((aIn zs x i j dn0).set (i + j) (y1 + x)) os zs EF) := by rw [← HM1.out]; exact E1.out.setD ED.out (i + j) (y1 + x)
          have c1s : (w5.setCell ⟨gD, i + j, none⟩ (.string m1)).cell? ⟨g1, j, none⟩ = some (.bool true) := (S6.out.b1.cell j).trans (by rw [List.getElem?_toArray, allB_get (by have := HLT.out; omega), HOJ.out])
          go_wp2_with fail
          try simp only [Only]
          have B6 := hid (F1.out.setCell (p := ⟨gD, i + j, none⟩) QD.out (.string m1))
          obtain ⟨w6, hw6⟩ : ∃ W, w5.setCell ⟨gD, i + j, none⟩ (.string m1) = W := ⟨_, rfl⟩
          rw [hw6] at S6 B6 ⊢
          have k2 : w6.cell? ⟨gO, i, none⟩ = some (.string sx) := by
           refine (S6.out.o.cell (by rw [HOL.out]; exact IL.out)).trans ?_
           rw [HX.out, HSX.out]
          have t2 : w6.cell? ⟨gN, i + j, none⟩ = some (.string u2) := by
           refine (S6.out.nx.cell (by rw [HNL.out j]; have := HLT.out; omega)).trans ?_
           rw [HY2.out, HU2.out]
          clear hw6 c1s fz1 tc1 ew t1 k1
          have ew : IntKind.i64.wrap ((i : Int) + (j : Int)) = (i : Int) + (j : Int) := by rw [IntWalk.i64_in _ ⟨by omega, by omega⟩]
          refine held_lasts 15 2 [0, 1, 2, 3, 4, 5, 6, 7, 8, 9, 10, 11, 12, 13] 1 (fun W' => W'.cell? ⟨gN, i + j, none⟩ = some (.string u2) ∧ W'.cell? ⟨gO, i, none⟩ = some (.string sx)) (by kernel_rfl) rfl (by kernel_rfl) (by kernel_rfl) (by kernel_rfl) (by kernel_rfl) ⟨t2, k2⟩ ?_
          iterate 14
           refine ⟨_, rfl, ?_⟩
           apply Exists.intro
           refine ⟨.inl ⟨by rfl, ?_⟩, ?_⟩
           ·(intro W' hW'; obtain ⟨r1, r2⟩ := hW'; go_simp; try (with_reducible rfl))
           (dsimp only [Act.put]; try simp only [List.setIfInBounds_toArray, List.set_cons_zero, List.set_cons_succ])
          refine held_one (i := 14) (by kernel_rfl) (by rfl) (by rfl) ?_
          go_wp2_with fail
          refine (P2 _ (HL.out.below B6.out.drew HLL.out)).out.mono ?_; rintro e w7 ⟨rfl, hbc⟩
          have C2 := hid (show Below w6.heap.size w6 w7 from (Below.refl _ _).drew.trans hbc)
          have E2 := hid (S6.out.call C2.out); have F2 := hid (B6.out.trans (C2.out.mono B6.out.size))
          have tc2 := (C2.out.cell (cell_lt t2)).trans t2
          have kc2 := (C2.out.cell (cell_lt k2)).trans k2
          clear hbc
          go_wp2_with fail
          refine ⟨⟨tc2, kc2⟩, ?_⟩
          refine wpAnyH_done (by kernel_rfl) ?_ _
          simp only [Only, ThenL, List.drop_succ_cons, List.drop_zero]
          have fz2 := E2.out.nx.free (i + j)
          clear kc2
          go_wp2_with fail
          try simp only [Only]
          go_roundw
          case rel => exact ⟨j + 1, by go_num, by have := HLT.out; omega, by rw [hN0.out, hD0.out, ← HM2.out]; exact E2.out.setN ED.out (i + j) (y2 + x), F2.out.setCell QN.out _⟩
          case measure => simp [intOf] <;> (have := HLT.out; omega)
       ·have q2 : decide ((i : Int) + (j : Int) ≤ (n : Int)) = false := by simp; omega
        have e1 : j = n + 1 - i := by omega
        have f7 : (j : Int) ≤ 1001 := by have := HN.out; omega
        have f5 : (0 : Int) ≤ (j : Int) := by omega
        subst e1
        clear hj hlt
        go_wp2_with fail
        go_roundw
        case rel => exact ⟨i + 1, by go_num, by have := IL.out; omega, by rw [hnx.out, hdn.out]; exact hS, hB⟩
        case measure => simp [intOf] <;> (have := IL.out; omega)
    ·have q0 : decide ((i : Int) < ((n + 1 : Nat) : Int)) = false := by simp; omega
     have di : decide ((i : Int) < (n : Int) + 1) = false := by simp; omega
     have e1 : i = n + 1 := by omega
     subst e1
     rw [NXr.out, DNr.out] at hS
     clear hi hlt
     have wr1 : IntKind.i64.wrap ((r : Int) + 1) = ((r + 1 : Nat) : Int) := by have := RL.out; have := HN.out; rw [IntWalk.i64_in _ ⟨by omega, by omega⟩]; omega
     go_wp2_with fail
     go_roundw
     case rel =>
      refine ⟨r + 1, gN, rv', gs ++ [gD], rfl, by go_num, by have := RL.out; omega, ⟨by rw [List.length_append, LG.out]; rfl, DG.out, NO.out⟩, ?_, hS.out.nx, hS.out.b1, hS.out.b2, hB⟩
      have h := hS.out.tab
      refine ⟨h.blk, h.own, fun i g hi hg => ?_, h.ne, fun i g hi hg => ?_, fun i g hi hg => ?_⟩
      ·by_cases hi2 : i < r
       ·exact h.rows i g hi2 hg
       ·obtain rfl : i = r := by omega
        rw [List.getElem?_append_right (by have := LG.out; omega), LG.out, Nat.sub_self] at hg
        simp at hg
        subst hg
        exact hS.out.dn
      ·by_cases hi2 : i < r
       ·exact h.sep i g hi2 hg
       ·obtain rfl : i = r := by omega
        rw [List.getElem?_append_right (by have := LG.out; omega), LG.out, Nat.sub_self] at hg
        simp at hg
        subst hg
        exact ED.out.rD
      ·by_cases hi2 : i < r
       ·exact h.gne i g hi2 hg
       ·obtain rfl : i = r := by omega
        rw [List.getElem?_append_right (by have := LG.out; omega), LG.out, Nat.sub_self] at hg
        simp at hg
        subst hg
        exact ED.out.tD
     case measure => simp [intOf] <;> (have := RL.out; omega)
  ·have q0 : decide ((r : Int) < ((n + 1 : Nat) : Int)) = false := by simp; omega
   have dr : decide ((r : Int) < (n : Int) + 1) = false := by simp; omega
   have e1 : r = n + 1 := by omega
   subst e1
   clear hr hlt
   unfold rowV
   go_wp2_with fail
   go_ret
   refine ⟨⟨gt, rfl, D1.out.2.2, ?_⟩, hB.out⟩
   rw [HEF.out]
   exact tabR_of hT.out hM.out.1 (fun i => by rw [← HEF.out]; exact fnL_length _ _) (by have := HN.out; omega)
end Go.Proofs.YtgphopkifomffaaGreatDoor
namespace Go.Proofs.YtgphopkifomffaaGreatDoor
open Go.RowKit
open Go.Maps
open Go.Lib (decDigits nDigits)
theorem c_Or (w : World) (g x : Nat) (h : Blk w g #[.string (cellB x), .string ⟨#[48]⟩] 22) :
 Calls Tryz.prog 147 #[.slice (some ⟨g, 0, none⟩) 2 2] w fun e w' => e = .returned (.string (numB x)) ∧ w = w' := by
 have r0 := h.cell 0
 have r1 := h.cell 1
 simp at r0 r1
 by_cases hx : x = 0
 ·subst hx
  have e1 : cellB 0 = ⟨#[]⟩ := rfl
  have e2 : numB 0 = ⟨#[48]⟩ := numB_zero
  rw [e1] at r0
  rw [e2]
  clear h e1 e2
  go_enter Tryz.func147, Tryz.ntmps147
  go_wp2_with fail
  go_loopw [8] (fun ii wr => ∃ i : Nat, ii = .int .i64 (i : Nat) ∧ i ≤ 1 ∧ wr = w) (fun ii wr => 2 - (intOf ii).toNat)
  case atStart => exact ⟨0, rfl, Nat.zero_le _, rfl⟩
  case round =>
   obtain ⟨i, rfl, hi, rfl⟩ := hrel
   rcases Nat.lt_or_ge i 1 with h0 | h0
   ·obtain rfl : i = 0 := by omega
    clear hi h0
    go_wp2_with fail
    go_roundw
    case rel => exact ⟨1, by go_num, by omega, by simp⟩
    case measure => simp [intOf]
   ·obtain rfl : i = 1 := by omega
    clear hi h0
    go_wp2_with fail
    go_ret
    exact ⟨rfl, rfl⟩
 ·have e1 : cellB x = numB x := if_neg hx
  rw [e1] at r0
  have q1 : ((numB x).toList == []) = false := ne_lit (l := []) (fun e => by
   have h1 := numB_size x
   rw [e] at h1
   have h2 := Go.Lib.nDigits_pos x
   simp [ByteArray.size] at h1
   omega)
  obtain ⟨s, hs⟩ : ∃ s, numB x = s := ⟨_, rfl⟩
  rw [hs] at r0 q1 ⊢
  clear h e1 hs hx
  go_enter Tryz.func147, Tryz.ntmps147
  go_wp2_with fail
  go_loopw [8] (fun ii wr => ii = .int .i64 0 ∧ wr = w) (fun ii wr => 0)
  case atStart => exact ⟨rfl, rfl⟩
  case round =>
   obtain ⟨rfl, rfl⟩ := hrel
   go_wp2_with fail
   go_ret
   exact ⟨rfl, rfl⟩
structure GlS (H : Type) (w1 w : World) (B K : Nat) (c : Int → Nat) : Prop where
 bel : Below w1.heap.size w1 w
 ex : ∃ (nn : Nat) (D : DataW H), nn ≤ K ∧ w.ownsMap Tryz.prog 3 (plainElem Tryz.prog 22) B nn D ∧ ReadsI D c
theorem GlS.mono {H : Type} {w1 w : World} {B K K' : Nat} {c c' : Int → Nat} (h : GlS H w1 w B K c) (hK : K ≤ K') (hc : c = c') : GlS H w1 w B K' c' := by
 subst hc
 obtain ⟨h1, nn, D, h2, h3, h4⟩ := h
 exact ⟨h1, nn, D, by omega, h3, h4⟩
theorem below_map {w1 w w' : World} {B : Nat} (h : Below w1.heap.size w1 w) (hg : w.grownBy w' (some B)) (hB : w1.heap.size ≤ B) : Below w1.heap.size w1 w' := by
 refine ⟨hg.os.trans h.os, hg.tape.trans h.tape, hg.output.trans h.output, Nat.le_trans h.size hg.size, fun i hi => ?_⟩
 exact (hg.block i (by have := h.size; omega) (fun e => by injection e with e; omega)).trans (h.block i hi)
theorem wf_int {v : Int} (h1 : -100000 ≤ v) (h2 : v ≤ 100000) : (Lit.int .i64 v).wf = true := WalkArith.wf_i64 ⟨by omega, by omega⟩
theorem nd_mul_pw {x y a b : Nat} (h1 : x ≤ 2 ^ a) (h2 : y ≤ 2 ^ b) (h : a + b ≤ 3000) : nDigits (x * y) ≤ 4000 := two_pow_digits (by rw [Nat.pow_add]; exact Nat.mul_le_mul h1 h2) h
theorem numB_size_le {x : Nat} (h : nDigits x ≤ 4000) : (numB x).size ≤ maxLen := by rw [numB_size]; unfold maxLen; omega
theorem g_law1 {H : Type} (w : World) (a : ByteArray) (n N D : Nat) (ha : a.size ≤ 100000) (he : gPE a = 0) (hn : n ≤ 32) (hN : bN (cW a) = N) (hD : bN (qD a) = D) (hND : N < D) (hL : Lay w) :
 Calls Tryz.prog 97 #[.string a, .int .i64 n, .bool false] w fun e w' => (∃ B nn Dm, e = .returned (.map (some B)) ∧ w.heap.size ≤ B ∧ nn ≤ 3000000 ∧ w'.ownsMap Tryz.prog 3 (plainElem (H := H) Tryz.prog 22) B nn Dm ∧ ReadsI Dm (gV N D false n)) ∧ Below w.heap.size w w' := by
 have HE := hid (g_ends w a n N D ha he hn hN hD hND hL)
 have HAT : Hid (∀ V gt i k, TabR V gt n (ednL N D n) → i ≤ n → k ≤ n → Calls Tryz.prog 146 #[.pointer (some ⟨gt, 0, none⟩), .int .i64 (i : Nat), .int .i64 (k : Nat)] V fun e w' => e = .returned (.string (numB (edn N D i k))) ∧ V = w') := fun V gt i k hT hi hk => by
  have := tb_at V gt n i k (ednL N D n) hT hi hk (by omega)
  unfold ednL at this
  rw [fnL_get hk] at this
  exact this
 have HPW := fun V k (hk : k ≤ 1000) hV => hid (g_power V k hk hV)
 have EB : Hid (∀ i k, i ≤ n → k ≤ n → edn N D i k ≤ 2 ^ 200) := fun i k hi hk => Nat.le_trans (edn_bd hn i k hk) (Nat.pow_le_pow_right (by omega) (by omega))
 have HL := hid hL; have HLL := hid hL.lt; have HN := hid hn; have HND := hid hND
 have wn : IntKind.i64.wrap ((n : Int) + 1) = ((n + 1 : Nat) : Int) := by rw [IntWalk.i64_in _ ⟨by omega, by omega⟩]; omega
 have hmm := @run_makeMap Tryz.prog
 clear ha he hn hN hD hND hL
 go_enter Tryz.func97, Tryz.ntmps97
 go_wp2_with fail
 refine HE.out.mono ?_; rintro e w1 ⟨⟨gt, rfl, hgt, hT⟩, hb1⟩
 have T1 := hid hT; have B1 := hid hb1
 clear hT hb1 HE hgt
 have TK : Hid (∀ V, Below w1.heap.size w1 V → TabR V gt n (ednL N D n)) := fun V hV => T1.out.call hV
 have LK : Hid (∀ V, Below w1.heap.size w1 V → Lay V) := fun V hV => (HL.out.call B1.out).call hV
 have HR0 : Hid (∀ V, Below w1.heap.size w1 V → ∃ g c, n + 1 ≤ c ∧ c ≤ 9223372036854775807 ∧ V.cell? ⟨gt, 0, none⟩ = some (.slice (some ⟨g, 0, none⟩) (n + 1) c)) := fun V hV => by
  obtain ⟨-, g, c, h1, h2, h3, -, -⟩ := TK.out V hV
  exact ⟨g, c, h1, h2, h3⟩
 have G0 : Hid (GlS H w1 (w1.alloc (.map #[] 0)) w1.heap.size 0 (fun _ => 0)) := ⟨(Below.refl _ _).alloc (Nat.le_refl _) _, 0, .map [], Nat.le_refl _, World.ownsMap_made _ _ _ _, ReadsI.nil⟩
 obtain ⟨g, c, hc1, hc2, r0⟩ := HR0.out _ G0.out.bel
 clear T1
 go_wp2_with fail
 obtain ⟨W1, hW1⟩ : ∃ W, w1.alloc (.map #[] 0) = W := ⟨_, rfl⟩
 obtain ⟨B, hB⟩ : ∃ B, w1.heap.size = B := ⟨_, rfl⟩
 have HB := hid hB
 have G1 : Hid (GlS H w1 W1 B 0 (fun _ => 0)) := by rw [← hW1, ← hB]; exact G0.out
 rw [hW1, hB]
 clear hW1 hB G0 r0 hc1 hc2
 go_loopw [22] (fun ii wr => ∃ i : Nat, ii = .int .i64 (i : Nat) ∧ i ≤ n + 1 ∧ Hid (GlS H w1 wr B (i * 64000) (c1 N D n i 0))) (fun ii wr => n + 1 - (intOf ii).toNat)
 case atStart => exact ⟨0, rfl, Nat.zero_le _, hid (by rw [c1_zero]; exact G1.out)⟩
 case round =>
  obtain ⟨i, rfl, hi, hG⟩ := hrel
  by_cases hlt : i < n + 1
  ·have q0 : decide ((i : Int) < ((n + 1 : Nat) : Int)) = true := by simp; omega
   have di : decide ((i : Int) < (n : Int) + 1) = true := by simp; omega
   have IL := hid hlt
   have f2 : (i : Int) ≤ 100 := by have := HN.out; omega
   clear hi hlt
   go_wp2_with fail
   go_loopw [27] (fun ss wq => ∃ s : Nat, ss = .int .i64 (s : Nat) ∧ s ≤ n + 1 ∧ Hid (GlS H w1 wq B (i * 64000 + s * 1600) (c1 N D n i s))) (fun ss wq => n + 1 - (intOf ss).toNat)
   case atStart => exact ⟨0, rfl, Nat.zero_le _, hid (hG.out.mono (by omega) rfl)⟩
   case round =>
    clear hG
    obtain ⟨s, rfl, hs, hG⟩ := hrel
    by_cases hlt : s < n + 1
    ·have q0 : decide ((s : Int) < ((n + 1 : Nat) : Int)) = true := by simp; omega
     have d30 : decide ((s : Int) < (n : Int) + 1) = true := by simp; omega
     have SL := hid hlt
     have f3 : (s : Int) ≤ 100 := by have := HN.out; omega
     have A1 := fun V hV => hid (HAT.out V gt i s (TK.out V hV) (by have := IL.out; omega) (by have := SL.out; omega))
     obtain ⟨x, hx⟩ : ∃ x, edn N D i s = x := ⟨_, rfl⟩
     rw [hx] at A1
     have bx : x ≤ 2 ^ 200 := hx ▸ EB.out i s (by have := IL.out; omega) (by have := SL.out; omega)
     by_cases hx0 : x = 0
     ·have q1 : ((numB x).toList == [48]) = true := by rw [hx0, numB_zero]; exact lit_zero
      have hsk := hid (c1_skip (N := N) (D := D) (n := n) (i := i) (s := s) (hx.trans hx0))
      obtain ⟨sx, hsx⟩ : ∃ s, numB x = s := ⟨_, rfl⟩
      rw [hsx] at A1 q1
      clear hs hlt hx bx hx0 hsx
      go_wp2_with fail
      refine (A1 _ hG.out.bel).out.mono ?_; rintro e w2 ⟨rfl, rfl⟩
      go_wp2_with fail
      go_roundw
      case rel => exact ⟨s + 1, by go_num, by have := SL.out; omega, hid (by rw [hsk.out]; exact hG.out.mono (by omega) rfl)⟩
      case measure => simp [intOf] <;> (have := SL.out; omega)
     ·have q1 : ((numB x).toList == [48]) = false := ne_lit (l := [48]) (by rw [← numB_zero]; exact numB_ne hx0)
      obtain ⟨hbl, nn, Dm, hnn, hO, hR⟩ := hG.out
      have hcl := c1_le (N := N) (D := D) HND.out (n := n) (i := i) (s := s) (by have := IL.out; omega) (by omega) (i : Int)
      have hcl2 := c1_le (N := N) (D := D) HND.out (n := n) (i := i) (s := s + 1) (by have := IL.out; omega) (by have := SL.out; omega) (i : Int)
      have hgv := gV_le HND.out false n (i : Int)
      have hstep := c1_step N D n i s
      rw [hstep] at hcl2
      rw [hx] at hstep hcl2
      unfold addM at hcl2
      rw [if_pos rfl] at hcl2
      have hp2 : 2 ^ (n - s) ≤ 2 ^ 32 := Nat.pow_le_pow_right (by omega) (by have := HN.out; omega)
      have hpn : 2 ^ n ≤ 2 ^ 32 := Nat.pow_le_pow_right (by omega) HN.out
      have hxp : 0 < x * 2 ^ (n - s) := Nat.mul_pos (by omega) (Nat.pow_pos (by omega))
      have hRP := ReadsI.put hR (i : Int) hxp
      have HRP := hid hRP; have HO := hid hO; have HNN := hid hnn; have HBL := hid hbl; have HST := hid hstep
      obtain ⟨y, hy⟩ : ∃ y, c1 N D n i s (i : Int) = y := ⟨_, rfl⟩
      have HLK : Hid (∀ V, Below wr.heap.size wr V → (Instr.lookup 137 (.map (some B)) (.int .i64 (i : Nat)) false).run Tryz.prog V = .ok (.string (cellB y)) V) := fun V hV => by
       have := look_i (HO.out.kept (row := none) ⟨hV.os, hV.tape, hV.output, hV.size, fun k hk _ => hV.block k hk⟩ (by simp)) hR (wf_int (v := (i : Int)) (by omega) (by omega))
       rw [hy] at this
       exact this
      rw [hy] at HRP hcl hcl2
      have dx := two_pow_digits bx (by omega)
      have dp := two_pow_digits hp2 (by omega)
      have dxp := two_pow_digits (i := 32) (show x * 2 ^ (n - s) ≤ 2 ^ 32 by omega) (by omega)
      have dy := two_pow_digits (i := 32) (show y ≤ 2 ^ 32 by omega) (by omega)
      have ds := two_pow_digits (i := 32) (show y + x * 2 ^ (n - s) ≤ 2 ^ 32 by omega) (by omega)
      have P0 := fun V hV => HPW V (n - s) (by have := HN.out; omega) hV
      have P1 := fun V hV => hid (p_times V x (2 ^ (n - s)) dx dp dxp hV)
      have P2 := fun V hV => hid (p_plus V y (x * 2 ^ (n - s)) dy dxp ds hV)
      have POR := fun V g h => hid (c_Or V g y h)
      have hsz := hid (numB_size_le ds)
      have wsub : IntKind.i64.wrap ((n : Int) - (s : Int)) = ((n - s : Nat) : Int) := by have := HN.out; have := SL.out; rw [IntWalk.i64_in _ ⟨by omega, by omega⟩]; omega
      obtain ⟨sx, hsx⟩ : ∃ t, numB x = t := ⟨_, rfl⟩
      obtain ⟨sp, hsp⟩ : ∃ t, numB (2 ^ (n - s)) = t := ⟨_, rfl⟩
      obtain ⟨sxp, hsxp⟩ : ∃ t, numB (x * 2 ^ (n - s)) = t := ⟨_, rfl⟩
      obtain ⟨sy, hsy⟩ : ∃ t, numB y = t := ⟨_, rfl⟩
      obtain ⟨sz, hszz⟩ : ∃ t, numB (y + x * 2 ^ (n - s)) = t := ⟨_, rfl⟩
      obtain ⟨cy, hcy⟩ : ∃ t, cellB y = t := ⟨_, rfl⟩
      rw [hsx] at A1 q1
      rw [hsp] at P0
      rw [hsx, hsp, hsxp] at P1
      rw [hsy, hsxp, hszz] at P2
      rw [hsy, hcy] at POR
      rw [hcy] at HLK
      rw [hszz] at hsz HRP
      have Z0 : Hid (w1.heap.size ≤ wr.heap.size) := hbl.size
      clear hs hlt hx bx hx0 hsx hcl hcl2 hgv hstep hp2 hpn hxp hRP hbl hnn hO hR hy dx dp dxp dy ds hsp hsxp hsy hszz hcy
      have lk := HLK.out wr (Below.refl _ _)
      have C2 : Blk (wr.alloc (.cells #[.string cy, .string ⟨#[48]⟩] 22)) wr.heap.size #[.string cy, .string ⟨#[48]⟩] 22 := Blk.new wr #[.string cy, .string ⟨#[48]⟩] 22
      have A2 := hid (show Below wr.heap.size wr (wr.alloc (.cells #[.string cy, .string ⟨#[48]⟩] 22)) from (Below.refl _ _).alloc (Nat.le_refl _) _)
      have F2 := hid (bnext HBL.out A2.out)
      go_wp2_with fail
      refine (A1 _ hG.out.bel).out.mono ?_; rintro e w2 ⟨rfl, rfl⟩
      go_wp2_with fail
      refine (POR _ _ C2).out.mono ?_; rintro e w2 ⟨rfl, rfl⟩
      clear lk C2
      go_wp2_with fail
      refine (A1 _ F2.out).out.mono ?_; rintro e w2 ⟨rfl, rfl⟩
      go_wp2_with fail
      refine (P0 _ (LK.out _ F2.out)).out.mono ?_; rintro e w3 ⟨rfl, hb3⟩
      have A3 := hid (bnext A2.out hb3)
      clear hb3
      go_wp2_with fail
      refine (P1 _ (LK.out _ (bnext HBL.out A3.out))).out.mono ?_; rintro e w4 ⟨rfl, hb4⟩
      have A4 := hid (bnext A3.out hb4)
      clear hb4
      go_wp2_with fail
      refine (P2 _ (LK.out _ (bnext HBL.out A4.out))).out.mono ?_; rintro e w5 ⟨rfl, hb5⟩
      have A5 := hid (bnext A4.out hb5)
      clear hb5
      go_wp2_with (at_mapUpdate; refine wpList_mapUpdate_own _ rfl _ _ _ 137 rfl 3 22 (int_keyed Tryz.underlying3) Tryz.underlying137 _ B nn _ rfl (HO.out.kept (row := none) ⟨A5.out.os, A5.out.tape, A5.out.output, A5.out.size, fun k hk _ => A5.out.block k hk⟩ (by simp)) (by have := HNN.out; have := HN.out; have := IL.out; have := SL.out; unfold maxLen; omega) _ _ _ rfl rfl (keyOf_int_mk Tryz.underlying3 (wf_int (v := (i : Int)) (by omega) (by omega))) _ [] (plainElem_string Tryz.underlying22 hsz.out) ?_; intro w6 hown hgrow)
      have OW := hid hown
      have B6 := hid (below_map (bnext HBL.out A5.out) hgrow (by rw [HB.out]; exact Nat.le_refl _))
      clear hown hgrow HLK
      go_roundw
      case rel =>
       refine ⟨s + 1, by go_num, by have := SL.out; omega, hid ⟨B6.out, nn + 1, _, by have := HNN.out; omega, OW.out, ?_⟩⟩
       rw [HST.out]
       exact HRP.out
      case measure => simp [intOf] <;> (have := SL.out; omega)
    ·have q0 : decide ((s : Int) < ((n + 1 : Nat) : Int)) = false := by simp; omega
     have d30 : decide ((s : Int) < (n : Int) + 1) = false := by simp; omega
     have e1 : s = n + 1 := by omega
     subst e1
     clear hs hlt
     have hrow := hid (c1_row N D n i)
     go_wp2_with fail
     go_roundw
     case rel => exact ⟨i + 1, by go_num, by have := IL.out; omega, hid (hG.out.mono (by have := HN.out; omega) hrow.out)⟩
     case measure => simp [intOf] <;> (have := IL.out; omega)
  ·have q0 : decide ((i : Int) < ((n + 1 : Nat) : Int)) = false := by simp; omega
   have di : decide ((i : Int) < (n : Int) + 1) = false := by simp; omega
   have e1 : i = n + 1 := by omega
   subst e1
   clear hi hlt
   obtain ⟨hbl, nn, Dm, h1, h2, h3⟩ := hG.out
   have HBL := hid hbl; have H1 := hid h1; have H2 := hid h2; have H3 := hid h3
   clear hbl h1 h2 h3
   go_wp2_with fail
   go_ret
   refine ⟨⟨B, nn, Dm, rfl, by rw [← HB.out]; exact B1.out.size, by have := H1.out; have := HN.out; omega, H2.out, ?_⟩, bnext B1.out HBL.out⟩
   have e2 : c1 N D n (n + 1) 0 = gV N D false n := funext fun v => c1_end HND.out n v
   rw [← e2]
   exact H3.out
theorem g_law2 {H : Type} (w : World) (a : ByteArray) (n N D : Nat) (ha : a.size ≤ 100000) (he : gPE a = 0) (hn : n ≤ 32) (hN : bN (cW a) = N) (hD : bN (qD a) = D) (hND : N < D) (hL : Lay w) :
 Calls Tryz.prog 97 #[.string a, .int .i64 n, .bool true] w fun e w' => (∃ B nn Dm, e = .returned (.map (some B)) ∧ w.heap.size ≤ B ∧ nn ≤ 3000000 ∧ w'.ownsMap Tryz.prog 3 (plainElem (H := H) Tryz.prog 22) B nn Dm ∧ ReadsI Dm (gV N D true n)) ∧ Below w.heap.size w w' := by
 have HE := hid (g_ends w a n N D ha he hn hN hD hND hL)
 have HAT : Hid (∀ V gt i k, TabR V gt n (ednL N D n) → i ≤ n → k ≤ n → Calls Tryz.prog 146 #[.pointer (some ⟨gt, 0, none⟩), .int .i64 (i : Nat), .int .i64 (k : Nat)] V fun e w' => e = .returned (.string (numB (edn N D i k))) ∧ V = w') := fun V gt i k hT hi hk => by
  have := tb_at V gt n i k (ednL N D n) hT hi hk (by omega)
  unfold ednL at this
  rw [fnL_get hk] at this
  exact this
 have HPW := fun V k (hk : k ≤ 1000) hV => hid (g_power V k hk hV)
 have EB : Hid (∀ i k, i ≤ n → k ≤ n → edn N D i k ≤ 2 ^ 200) := fun i k hi hk => Nat.le_trans (edn_bd hn i k hk) (Nat.pow_le_pow_right (by omega) (by omega))
 have HL := hid hL; have HLL := hid hL.lt; have HN := hid hn; have HND := hid hND
 have wn : IntKind.i64.wrap ((n : Int) + 1) = ((n + 1 : Nat) : Int) := by rw [IntWalk.i64_in _ ⟨by omega, by omega⟩]; omega
 have hmm := @run_makeMap Tryz.prog
 clear ha he hn hN hD hND hL
 go_enter Tryz.func97, Tryz.ntmps97
 go_wp2_with fail
 refine HE.out.mono ?_; rintro e w1 ⟨⟨gt, rfl, hgt, hT⟩, hb1⟩
 have T1 := hid hT; have B1 := hid hb1
 clear hT hb1 HE hgt
 have TK : Hid (∀ V, Below w1.heap.size w1 V → TabR V gt n (ednL N D n)) := fun V hV => T1.out.call hV
 have LK : Hid (∀ V, Below w1.heap.size w1 V → Lay V) := fun V hV => (HL.out.call B1.out).call hV
 have HR0 : Hid (∀ V, Below w1.heap.size w1 V → ∃ g c, n + 1 ≤ c ∧ c ≤ 9223372036854775807 ∧ V.cell? ⟨gt, 0, none⟩ = some (.slice (some ⟨g, 0, none⟩) (n + 1) c)) := fun V hV => by
  obtain ⟨-, g, c, h1, h2, h3, -, -⟩ := TK.out V hV
  exact ⟨g, c, h1, h2, h3⟩
 have G0 : Hid (GlS H w1 (w1.alloc (.map #[] 0)) w1.heap.size 0 (fun _ => 0)) := ⟨(Below.refl _ _).alloc (Nat.le_refl _) _, 0, .map [], Nat.le_refl _, World.ownsMap_made _ _ _ _, ReadsI.nil⟩
 obtain ⟨g, c, hc1, hc2, r0⟩ := HR0.out _ G0.out.bel
 clear T1
 go_wp2_with fail
 obtain ⟨W1, hW1⟩ : ∃ W, w1.alloc (.map #[] 0) = W := ⟨_, rfl⟩
 obtain ⟨B, hB⟩ : ∃ B, w1.heap.size = B := ⟨_, rfl⟩
 have HB := hid hB
 have G1 : Hid (GlS H w1 W1 B 0 (fun _ => 0)) := by rw [← hW1, ← hB]; exact G0.out
 rw [hW1, hB]
 clear hW1 hB G0 r0 hc1 hc2
 go_loopw [22] (fun ii wr => ∃ i : Nat, ii = .int .i64 (i : Nat) ∧ i ≤ n + 1 ∧ Hid (GlS H w1 wr B (i * 64000) (c2 N D n i 0 0 0))) (fun ii wr => n + 1 - (intOf ii).toNat)
 case atStart => exact ⟨0, rfl, Nat.zero_le _, hid (by rw [c2_zero]; exact G1.out)⟩
 case round =>
  obtain ⟨i, rfl, hi, hG⟩ := hrel
  by_cases hlt : i < n + 1
  ·have q0 : decide ((i : Int) < ((n + 1 : Nat) : Int)) = true := by simp; omega
   have di : decide ((i : Int) < (n : Int) + 1) = true := by simp; omega
   have IL := hid hlt
   have f2 : (i : Int) ≤ 100 := by have := HN.out; omega
   clear hi hlt
   go_wp2_with fail
   go_loopw [27] (fun ss wq => ∃ s : Nat, ss = .int .i64 (s : Nat) ∧ s ≤ n + 1 ∧ Hid (GlS H w1 wq B (i * 64000 + s * 1600) (c2 N D n i s 0 0))) (fun ss wq => n + 1 - (intOf ss).toNat)
   case atStart => exact ⟨0, rfl, Nat.zero_le _, hid (hG.out.mono (by omega) rfl)⟩
   case round =>
    clear hG
    obtain ⟨s, rfl, hs, hG⟩ := hrel
    by_cases hlt : s < n + 1
    ·have q0 : decide ((s : Int) < ((n + 1 : Nat) : Int)) = true := by simp; omega
     have d30 : decide ((s : Int) < (n : Int) + 1) = true := by simp; omega
     have SL := hid hlt
     have f3 : (s : Int) ≤ 100 := by have := HN.out; omega
     have A1 := fun V hV => hid (HAT.out V gt i s (TK.out V hV) (by have := IL.out; omega) (by have := SL.out; omega))
     obtain ⟨x, hx⟩ : ∃ x, edn N D i s = x := ⟨_, rfl⟩
     rw [hx] at A1
     have bx : x ≤ 2 ^ 200 := hx ▸ EB.out i s (by have := IL.out; omega) (by have := SL.out; omega)
     by_cases hx0 : x = 0
     ·have q1 : ((numB x).toList == [48]) = true := by rw [hx0, numB_zero]; exact lit_zero
      have hsk := hid (c2_none (N := N) (D := D) (n := n) (i := i) (s := s) (hx.trans hx0))
      obtain ⟨sx, hsx⟩ : ∃ s, numB x = s := ⟨_, rfl⟩
      rw [hsx] at A1 q1
      clear hs hlt hx bx hx0 hsx
      go_wp2_with fail
      refine (A1 _ hG.out.bel).out.mono ?_; rintro e w2 ⟨rfl, rfl⟩
      go_wp2_with fail
      go_roundw
      case rel => exact ⟨s + 1, by go_num, by have := SL.out; omega, hid (by rw [hsk.out]; exact hG.out.mono (by omega) rfl)⟩
      case measure => simp [intOf] <;> (have := SL.out; omega)
     ·have q1 : ((numB x).toList == [48]) = false := ne_lit (l := [48]) (by rw [← numB_zero]; exact numB_ne hx0)
      have HX := hid hx; have BX := hid bx; have HX0 := hid hx0
      obtain ⟨sx, hsx⟩ : ∃ s, numB x = s := ⟨_, rfl⟩
      rw [hsx] at A1 q1
      have HSX := hid hsx
      obtain ⟨g', c', hc1', hc2', r0'⟩ := HR0.out _ hG.out.bel
      clear hs hlt hx bx hx0 hsx
      go_wp2_with fail
      refine (A1 _ hG.out.bel).out.mono ?_; rintro e w2 ⟨rfl, rfl⟩
      go_wp2_with fail
      clear q1
      go_loopw [59] (fun kk wq => ∃ k : Nat, kk = .int .i64 (k : Nat) ∧ k ≤ n + 1 ∧ Hid (GlS H w1 wq B (i * 64000 + s * 1600 + k * 40) (c2 N D n i s k 0))) (fun kk wq => n + 1 - (intOf kk).toNat)
      case atStart => exact ⟨0, rfl, Nat.zero_le _, hid (hG.out.mono (by omega) rfl)⟩
      case round =>
       clear r0' hG
       obtain ⟨k, rfl, hk, hG⟩ := hrel
       by_cases hlt : k < n + 1
       ·have q0 : decide ((k : Int) < ((n + 1 : Nat) : Int)) = true := by simp; omega
        have dk : decide ((k : Int) < (n : Int) + 1) = true := by simp; omega
        have KL := hid hlt
        have f4 : (k : Int) ≤ 100 := by have := HN.out; omega
        clear hk hlt
        go_wp2_with fail
        go_loopw [12] (fun uu wq => ∃ u : Nat, uu = .int .i64 (u : Nat) ∧ s + u ≤ n + 1 ∧ Hid (GlS H w1 wq B (i * 64000 + s * 1600 + k * 40 + u) (c2 N D n i s k u))) (fun uu wq => n + 1 - (intOf uu).toNat)
        case atStart => exact ⟨0, rfl, by have := SL.out; omega, hid (hG.out.mono (by omega) rfl)⟩
        case round =>
         clear hG
         obtain ⟨u, rfl, hu, hG⟩ := hrel
         by_cases hlt : s + u ≤ n
         ·have q2 : decide ((s : Int) + (u : Int) ≤ (n : Int)) = true := by simp; omega
          have UL := hid hlt
          have f5 : (u : Int) ≤ 100 := by have := HN.out; omega
          have A2 := fun V hV => hid (HAT.out V gt k u (TK.out V hV) (by have := KL.out; omega) (by have := UL.out; omega))
          obtain ⟨y, hy⟩ : ∃ y, edn N D k u = y := ⟨_, rfl⟩
          rw [hy] at A2
          have by' : y ≤ 2 ^ 200 := hy ▸ EB.out k u (by have := KL.out; omega) (by omega)
          by_cases hy0 : y = 0
          ·have q1 : ((numB y).toList == [48]) = true := by rw [hy0, numB_zero]; exact lit_zero
           have hsk := hid (c2_skip (N := N) (D := D) (n := n) (i := i) (s := s) (k := k) (u := u) (hy.trans hy0))
           obtain ⟨sy, hsy⟩ : ∃ s, numB y = s := ⟨_, rfl⟩
           rw [hsy] at A2 q1
           clear hu hlt hy by' hy0 hsy
           go_wp2_with fail
           refine (A2 _ hG.out.bel).out.mono ?_; rintro e w2 ⟨rfl, rfl⟩
           go_wp2_with fail
           go_roundw
           case rel => exact ⟨u + 1, by go_num, by have := UL.out; omega, hid (by rw [hsk.out]; exact hG.out.mono (by omega) rfl)⟩
           case measure => simp [intOf] <;> (have := UL.out; omega)
          ·have q1 : ((numB y).toList == [48]) = false := ne_lit (l := [48]) (by rw [← numB_zero]; exact numB_ne hy0)
           obtain ⟨hbl, nn, Dm, hnn, hO, hR⟩ := hG.out
           obtain ⟨v, hv⟩ : ∃ v : Int, (i : Int) - (k : Int) = v := ⟨_, rfl⟩
           have hvb : -1000 ≤ v ∧ v ≤ 1000 := ⟨by omega, by have := IL.out; have := HN.out; omega⟩
           have hcl := c2_le (N := N) (D := D) HND.out (n := n) (i := i) (s := s) (k := k) (u := u) (by have := IL.out; omega) (by omega) (by have := KL.out; omega) (by omega) v
           have hcl2 := c2_le (N := N) (D := D) HND.out (n := n) (i := i) (s := s) (k := k) (u := u + 1) (by have := IL.out; omega) (by omega) (by have := KL.out; omega) (by omega) v
           have hgv := gV_le HND.out true n v
           have hstep := c2_u N D n i s k u
           rw [hstep] at hcl2
           rw [HX.out, hy, hv] at hstep hcl2
           unfold addM at hcl2
           rw [if_pos rfl] at hcl2
           obtain ⟨m, hm⟩ : ∃ m, n - s - u = m := ⟨_, rfl⟩
           obtain ⟨ns, hns⟩ : ∃ m, n - s = m := ⟨_, rfl⟩
           have hm32 : m ≤ 32 := by have := HN.out; omega
           have wsub : IntKind.i64.wrap ((n : Int) - (s : Int)) = (ns : Int) := by rw [IntWalk.i64_in _ ⟨by omega, by omega⟩]; omega
           have wsub2 : IntKind.i64.wrap ((ns : Int) - (u : Int)) = (m : Int) := by rw [IntWalk.i64_in _ ⟨by omega, by omega⟩]; omega
           have wik : IntKind.i64.wrap ((i : Int) - (k : Int)) = v := by rw [IntWalk.i64_in _ ⟨by omega, by omega⟩]; exact hv
           rw [hm] at hstep hcl2
           have hp2 : 2 ^ m ≤ 2 ^ 32 := Nat.pow_le_pow_right (by omega) hm32
           have hpn : 2 ^ n ≤ 2 ^ 32 := Nat.pow_le_pow_right (by omega) HN.out
           obtain ⟨xy, hxy⟩ : ∃ z, x * y = z := ⟨_, rfl⟩
           have hxy0 : 0 < xy := by rw [← hxy]; exact Nat.mul_pos (by have := HX0.out; omega) (by omega)
           have hxp : 0 < xy * 2 ^ m := Nat.mul_pos hxy0 (Nat.pow_pos (by omega))
           have dxy' := nd_mul_pw BX.out by' (by omega)
           rw [hxy] at dxy'
           have dx := two_pow_digits BX.out (by omega)
           have dyy := two_pow_digits by' (by omega)
           have PXY := fun V hV => hid (p_times V x y dx dyy (by rw [hxy]; exact dxy') hV)
           rw [hxy] at hstep hcl2 PXY
           have hRP := ReadsI.put hR v hxp
           have HRP := hid hRP; have HO := hid hO; have HNN := hid hnn; have HBL := hid hbl; have HST := hid hstep
           obtain ⟨z, hz⟩ : ∃ y, c2 N D n i s k u v = y := ⟨_, rfl⟩
           have HLK : Hid (∀ V, Below wr.heap.size wr V → (Instr.lookup 137 (.map (some B)) (.int .i64 v) false).run Tryz.prog V = .ok (.string (cellB z)) V) := fun V hV => by
            have := look_i (HO.out.kept (row := none) ⟨hV.os, hV.tape, hV.output, hV.size, fun k hk _ => hV.block k hk⟩ (by simp)) hR (wf_int (v := v) (by omega) (by omega))
            rw [hz] at this
            exact this
           rw [hz] at HRP hcl hcl2
           have dp := two_pow_digits hp2 (by omega)
           have dxp := two_pow_digits (i := 32) (show xy * 2 ^ m ≤ 2 ^ 32 by omega) (by omega)
           have dz := two_pow_digits (i := 32) (show z ≤ 2 ^ 32 by omega) (by omega)
           have ds := two_pow_digits (i := 32) (show z + xy * 2 ^ m ≤ 2 ^ 32 by omega) (by omega)
           have P0 := fun V hV => HPW V m (by omega) hV
           have P1 := fun V hV => hid (p_times V xy (2 ^ m) dxy' dp dxp hV)
           have P2 := fun V hV => hid (p_plus V z (xy * 2 ^ m) dz dxp ds hV)
           have POR := fun V g h => hid (c_Or V g z h)
           have hsz := hid (numB_size_le ds)
           have hwf := hid (keyOf_int_mk Tryz.underlying3 (wf_int (v := v) (by omega) (by omega)))
           obtain ⟨sy, hsy⟩ : ∃ t, numB y = t := ⟨_, rfl⟩
           obtain ⟨sxy, hsxy⟩ : ∃ t, numB xy = t := ⟨_, rfl⟩
           obtain ⟨sp, hsp⟩ : ∃ t, numB (2 ^ m) = t := ⟨_, rfl⟩
           obtain ⟨sxp, hsxp⟩ : ∃ t, numB (xy * 2 ^ m) = t := ⟨_, rfl⟩
           obtain ⟨sz, hsz1⟩ : ∃ t, numB z = t := ⟨_, rfl⟩
           obtain ⟨st, hst⟩ : ∃ t, numB (z + xy * 2 ^ m) = t := ⟨_, rfl⟩
           obtain ⟨cz, hcz⟩ : ∃ t, cellB z = t := ⟨_, rfl⟩
           rw [hsy] at A2 q1
           rw [HSX.out, hsy, hsxy] at PXY
           rw [hsp] at P0
           rw [hsxy, hsp, hsxp] at P1
           rw [hsz1, hsxp, hst] at P2
           rw [hsz1, hcz] at POR
           rw [hcz] at HLK
           rw [hst] at hsz HRP
           clear hu hlt hy by' hy0 hbl hnn hO hR hv hvb hcl hcl2 hgv hstep hm hns hm32 hp2 hpn hxy hxy0 hxp dxy' dx dyy hRP hz dp dxp dz ds hsy hsxy hsp hsxp hsz1 hst hcz
           have lk := HLK.out wr (Below.refl _ _)
           have C2 : Blk (wr.alloc (.cells #[.string cz, .string ⟨#[48]⟩] 22)) wr.heap.size #[.string cz, .string ⟨#[48]⟩] 22 := Blk.new wr #[.string cz, .string ⟨#[48]⟩] 22
           have F2 := hid (show Below wr.heap.size wr (wr.alloc (.cells #[.string cz, .string ⟨#[48]⟩] 22)) from (Below.refl _ _).alloc (Nat.le_refl _) _)
           have E2 := hid (bnext HBL.out F2.out)
           go_wp2_with fail
           refine (A2 _ hG.out.bel).out.mono ?_; rintro e w2 ⟨rfl, rfl⟩
           go_wp2_with fail
           refine (POR _ _ C2).out.mono ?_; rintro e w2 ⟨rfl, rfl⟩
           clear lk C2
           go_wp2_with fail
           refine (A1 _ E2.out).out.mono ?_; rintro e w2 ⟨rfl, rfl⟩
           go_wp2_with fail
           refine (A2 _ E2.out).out.mono ?_; rintro e w2 ⟨rfl, rfl⟩
           go_wp2_with fail
           refine (PXY _ (LK.out _ E2.out)).out.mono ?_; rintro e w3 ⟨rfl, hb3⟩
           have F3 := hid (bnext F2.out hb3)
           clear hb3
           go_wp2_with fail
           refine (P0 _ (LK.out _ (bnext HBL.out F3.out))).out.mono ?_; rintro e w4 ⟨rfl, hb4⟩
           have F4 := hid (bnext F3.out hb4)
           clear hb4
           go_wp2_with fail
           refine (P1 _ (LK.out _ (bnext HBL.out F4.out))).out.mono ?_; rintro e w5 ⟨rfl, hb5⟩
           have F5 := hid (bnext F4.out hb5)
           clear hb5
           go_wp2_with fail
           refine (P2 _ (LK.out _ (bnext HBL.out F5.out))).out.mono ?_; rintro e w6 ⟨rfl, hb6⟩
           have F6 := hid (bnext F5.out hb6)
           clear hb6
           go_wp2_with (at_mapUpdate; refine wpList_mapUpdate_own _ rfl _ _ _ 137 rfl 3 22 (int_keyed Tryz.underlying3) Tryz.underlying137 _ B nn _ rfl (HO.out.kept (row := none) ⟨F6.out.os, F6.out.tape, F6.out.output, F6.out.size, fun k hk _ => F6.out.block k hk⟩ (by simp)) (by have := HNN.out; have := HN.out; have := IL.out; have := SL.out; have := KL.out; have := UL.out; unfold maxLen; omega) _ _ _ rfl rfl hwf.out _ [] (plainElem_string Tryz.underlying22 hsz.out) ?_; intro w7 hown hgrow)
           have OW := hid hown
           have B7 := hid (below_map (bnext HBL.out F6.out) hgrow (by rw [HB.out]; exact Nat.le_refl _))
           clear hown hgrow HLK
           go_roundw
           case rel =>
            refine ⟨u + 1, by go_num, by have := UL.out; omega, hid ⟨B7.out, nn + 1, _, by have := HNN.out; omega, OW.out, ?_⟩⟩
            rw [HST.out]
            exact HRP.out
           case measure => simp [intOf] <;> (have := UL.out; omega)
         ·have q2 : decide ((s : Int) + (u : Int) ≤ (n : Int)) = false := by simp; omega
          have e1 : u = n - s + 1 := by have := SL.out; omega
          have f5 : (u : Int) ≤ 100 := by have := HN.out; omega
          subst e1
          clear hu hlt
          have hck := hid (c2_k N D n i s k)
          go_wp2_with fail
          go_roundw
          case rel => exact ⟨k + 1, by go_num, by have := KL.out; omega, hid (hG.out.mono (by have := HN.out; omega) hck.out)⟩
          case measure => simp [intOf] <;> (have := KL.out; omega)
       ·have q0 : decide ((k : Int) < ((n + 1 : Nat) : Int)) = false := by simp; omega
        have dk : decide ((k : Int) < (n : Int) + 1) = false := by simp; omega
        have e1 : k = n + 1 := by omega
        subst e1
        clear hk hlt
        have hcs := hid (c2_s N D n i s)
        go_wp2_with fail
        go_roundw
        case rel => exact ⟨s + 1, by go_num, by have := SL.out; omega, hid (hG.out.mono (by have := HN.out; omega) hcs.out)⟩
        case measure => simp [intOf] <;> (have := SL.out; omega)
    ·have q0 : decide ((s : Int) < ((n + 1 : Nat) : Int)) = false := by simp; omega
     have d30 : decide ((s : Int) < (n : Int) + 1) = false := by simp; omega
     have e1 : s = n + 1 := by omega
     subst e1
     clear hs hlt
     have hrow := hid (c2_i N D n i)
     go_wp2_with fail
     go_roundw
     case rel => exact ⟨i + 1, by go_num, by have := IL.out; omega, hid (hG.out.mono (by have := HN.out; omega) hrow.out)⟩
     case measure => simp [intOf] <;> (have := IL.out; omega)
  ·have q0 : decide ((i : Int) < ((n + 1 : Nat) : Int)) = false := by simp; omega
   have di : decide ((i : Int) < (n : Int) + 1) = false := by simp; omega
   have e1 : i = n + 1 := by omega
   subst e1
   clear hi hlt
   obtain ⟨hbl, nn, Dm, h1, h2, h3⟩ := hG.out
   have HBL := hid hbl; have H1 := hid h1; have H2 := hid h2; have H3 := hid h3
   clear hbl h1 h2 h3
   go_wp2_with fail
   go_ret
   refine ⟨⟨B, nn, Dm, rfl, by rw [← HB.out]; exact B1.out.size, by have := H1.out; have := HN.out; omega, H2.out, ?_⟩, bnext B1.out HBL.out⟩
   have e2 : c2 N D n (n + 1) 0 0 0 = gV N D true n := funext fun v => c2_end HND.out n v
   rw [← e2]
   exact H3.out
end Go.Proofs.YtgphopkifomffaaGreatDoor
namespace Go.Proofs.YtgphopkifomffaaGreatDoor
open Go.RowKit
open Go.Lib (decDigits nDigits)
def glE (a : ByteArray) (n : Int) (m : Int) : Int := if gPE a ≠ 0 then gPE a else if n < 0 ∨ m < n then 2 else 0
open Go.Sort
open Go.Shelf
open Go.Maps
def prL (N D : Nat) (two : Bool) (n : Nat) (vs : List Int) : List (ByteArray × ByteArray) := vs.map fun v => (zB v, shB (gV N D two n v) (2 ^ n))
theorem prL_snoc (N D : Nat) (two : Bool) (n : Nat) (vs : List Int) (v : Int) : prL N D two n (vs ++ [v]) = prL N D two n vs ++ [(zB v, shB (gV N D two n v) (2 ^ n))] := by simp [prL]
theorem seen_len {n : Nat} {vs : List Int} (hn : vs.Nodup) (hb : ∀ v ∈ vs, -(n : Int) ≤ v ∧ v ≤ n) : vs.length ≤ 2 * n + 1 := by
 have h := seen_sum (fun _ => 1) n vs hn hb
 have h2 : sumN (fun j => if ((j : Int) - n) ∈ vs then 1 else 0) (2 * n + 1) ≤ sumN (fun _ => 1) (2 * n + 1) := sumN_le fun j _ => by split <;> omega
 have h3 : ∀ m, sumN (fun _ => 1) m = m := fun m => by
  induction m with
  | zero => rfl
  | succ m ih => rw [sumN, ih]
 have h4 : ∀ l : List Int, (l.map fun _ => 1).sum = l.length := fun l => by
  induction l with
  | nil => rfl
  | cons a r ih => rw [List.map_cons, List.sum_cons, ih, List.length_cons]; omega
 rw [h3] at h2
 rw [h4] at h
 omega
theorem g_listed_ok {H : Type} (w : World) (a : ByteArray) (n N D : Nat) (two : Bool) (ha : a.size ≤ 100000) (he : gPE a = 0) (hn : n ≤ 32) (hN : bN (cW a) = N) (hD : bN (qD a) = D) (hND : N < D) (hL : Lay w) :
 Calls Tryz.prog 56 #[.string a, .int .i64 n, .bool two] w fun e w' => (∃ v, e = .returned (.tuple #[v, .int .i64 0]) ∧ MRow w' v (sortM (glP (gV N D two n) (2 ^ n) n (gL N D two n)))) ∧ Below w.heap.size w w' := by
 have HA := hid (g_ratio w a ha hL)
 rw [if_pos he, if_pos he, he] at HA
 have HLAW : ∀ V, Lay V → Hid (Calls Tryz.prog 97 #[.string a, .int .i64 n, .bool two] V fun e w' => (∃ B nn Dm, e = .returned (.map (some B)) ∧ V.heap.size ≤ B ∧ nn ≤ 3000000 ∧ w'.ownsMap Tryz.prog 3 (plainElem (H := H) Tryz.prog 22) B nn Dm ∧ ReadsI Dm (gV N D two n)) ∧ Below V.heap.size V w') := fun V hV => by
  cases two
  ·exact g_law1 V a n N D ha he hn hN hD hND hV
  ·exact g_law2 V a n N D ha he hn hN hD hND hV
 have HPW := fun V hV => hid (g_power V n (by omega) hV)
 have HSL : Hid (∀ vs left, Seen (gV N D two n) n left vs → (vs.map (gV N D two n)).sum ≤ 2 ^ n) := fun vs left h => h.sum_le hND
 have HSA : Hid (∀ vs left, Seen (gV N D two n) n left vs → (∀ v, left v = false) → 2 ^ n - (vs.map (gV N D two n)).sum = gL N D two n) := fun vs left h hl => h.sum_all hND hl
 have HSP : Hid (∀ vs left, Seen (gV N D two n) n left vs → (∀ v, left v = false) → ∀ r, ((prL N D two n vs ++ if r = 0 then [] else [(lateB, shB r (2 ^ n))]).map keyL).Nodup ∧ sortM (prL N D two n vs ++ if r = 0 then [] else [(lateB, shB r (2 ^ n))]) = sortM (glP (gV N D two n) (2 ^ n) n r)) := fun vs left h hl r => h.pairs hND hl
 have HVS : Hid (∀ vs left, Seen (gV N D two n) n left vs → vs.length ≤ 100) := fun vs left h => by
  have h1 := seen_len h.nd fun v hv => by
   have h1 := ((h.mem v).1 hv).1
   rcases Int.lt_or_le v (-(n : Int)) with h2 | h2
   ·exact absurd (gV_out hND (.inl h2)) h1
   ·rcases Int.lt_or_le (n : Int) v with h3 | h3
    ·exact absurd (gV_out hND (.inr h3)) h1
    ·exact ⟨h2, h3⟩
  omega
 have HOUT : Hid (∀ v, gV N D two n v ≠ 0 → -100 ≤ v ∧ v ≤ 100) := fun v h1 => by
  rcases Int.lt_or_le v (-(n : Int)) with h2 | h2
  ·exact absurd (gV_out hND (.inl h2)) h1
  ·rcases Int.lt_or_le (n : Int) v with h3 | h3
   ·exact absurd (gV_out hND (.inr h3)) h1
   ·omega
 have HGV : Hid (∀ v, gV N D two n v ≤ 2 ^ n) := fun v => gV_le hND two n v
 have hpn : 2 ^ n ≤ 2 ^ 32 := Nat.pow_le_pow_right (by omega) hn
 have dT := two_pow_digits hpn (by omega)
 have hT0 : 2 ^ n ≠ 0 := Nat.ne_of_gt (Nat.pow_pos (by omega))
 have HMK : ∀ x, x ≤ 2 ^ n → ∀ V, Lay V → Hid (Calls Tryz.prog 98 #[.string (numB x), .string (numB (2 ^ n))] V fun e w' => e = .returned (.tuple #[.string (shB x (2 ^ n)), .int .i64 (outE (qmk false x (2 ^ n)))]) ∧ Below V.heap.size V w') := fun x hx V hV => pk_make V x (2 ^ n) (two_pow_digits (i := 32) (by omega) (by omega)) dT hT0 hV
 have HSB : ∀ x y, y ≤ x → x ≤ 2 ^ n → ∀ V, Lay V → Hid (Calls Tryz.prog 99 #[.string (numB x), .string (numB y)] V fun e w' => e = .returned (.tuple #[.string (numB (x - y)), .int .i64 0]) ∧ Below V.heap.size V w') := fun x y hy hx V hV => p_sub V x y (two_pow_digits (i := 32) (by omega) (by omega)) (two_pow_digits (i := 32) (by omega) (by omega)) hy hV
 have HMK' := hid HMK; have HSB' := hid HSB
 obtain ⟨cg, hcg⟩ : ∃ c, gV N D two n = c := ⟨_, rfl⟩
 obtain ⟨gl, hgl⟩ : ∃ c, gL N D two n = c := ⟨_, rfl⟩
 obtain ⟨pr, hpr⟩ : ∃ c, prL N D two n = c := ⟨_, rfl⟩
 have HPR : Hid (∀ vs v, pr (vs ++ [v]) = pr vs ++ [(zB v, shB (cg v) (2 ^ n))]) := fun vs v => by rw [← hpr, ← hcg]; exact prL_snoc N D two n vs v
 have HPL : Hid (∀ vs, (pr vs).length = vs.length) := fun vs => by rw [← hpr]; unfold prL; rw [List.length_map]
 have HP0 : Hid (pr [] = []) := by show pr [] = []; rw [← hpr]; rfl
 rw [hcg] at HSL HSA HSP HVS HOUT HGV
 rw [hpr] at HSP
 rw [hgl] at HSA
 simp only [hcg] at HLAW
 rw [hcg, hgl]
 obtain ⟨T, hT⟩ : ∃ T, 2 ^ n = T := ⟨_, rfl⟩
 obtain ⟨sT, hsT⟩ : ∃ s, numB T = s := ⟨_, rfl⟩
 rw [hT] at HPW HSL HSA HSP HGV HMK' HSB' HPR hT0 ⊢
 rw [hsT] at HPW
 simp only [hsT] at HMK'
 have HST := hid hsT; have HT0 := hid hT0
 have HLy := hid hL; have HN := hid hn
 have q0 : decide ((n : Int) < 0) = false := by simp
 have q1 : decide ((32 : Int) < (n : Int)) = false := by simp; omega
 obtain ⟨i0, hi, hz0, hz1, hz2⟩ := info_parts info_mass
 clear ha he hn hN hD hND hL hcg hgl hpr hT hsT hpn dT hT0 HMK HSB
 go_enter Tryz.func56, Tryz.ntmps56
 go_wp2_with fail
 refine HA.out.mono ?_; rintro e w1 ⟨rfl, hb1⟩
 have B1 := hid hb1; clear hb1 HA
 go_wp2_with fail
 refine (HPW _ (HLy.out.call B1.out)).out.mono ?_; rintro e w2 ⟨rfl, hb2⟩
 have B2 := hid (bnext B1.out hb2); clear hb2
 go_wp2_with fail
 refine (HLAW _ (HLy.out.call B2.out)).out.mono ?_; rintro e w3 ⟨⟨B, nn, Dm, rfl, hBs, hnn, hown, hR⟩, hb3⟩
 have B3 := hid (bnext B2.out hb3); have HR := hid hR; have HBS := hid hBs
 clear hb3 hBs hnn hR HLAW
 go_wp2_with (first | (at_range; refine wpList_range_own _ rfl _ 137 rfl 3 22 (int_keyed Tryz.underlying3) Tryz.underlying137 _ B nn Dm rfl hown ?_; intro w4 hrg0 hg0 hs0) | go_in)
 go_frame
 have B4 : Hid (Below w.heap.size w w4) := B3.out.trans ⟨hg0.os, hg0.tape, hg0.output, hg0.size, fun k hk => hg0.block k (by have := B3.out.size; omega) (by simp)⟩
 obtain ⟨r, hr⟩ : ∃ r, w3.heap.size = r := ⟨_, rfl⟩
 rw [hr] at hrg0 ⊢
 have Hr : Hid (w.heap.size ≤ r ∧ r < w4.heap.size ∧ B < w4.heap.size) := ⟨by rw [← hr]; exact B3.out.size, hrg0.lt, hrg0.owns.lt⟩
 have S0 : Hid (Seen cg n (fun v => Maps.has Dm (.int .i64 v)) []) := Seen.start fun v hv => by rw [HR.out.has]; simpa using hv
 have RG := hid hrg0
 have HB0 : Hid (w.heap.size ≤ B) := Nat.le_trans B2.out.size HBS.out
 clear hrg0 hg0 hs0 hown hr HBS
 go_loopw [11, 12] (fun s11 s12 wr => ∃ (left : Lit → Bool) (cnt : Nat) (vs : List Int), Hid (wr.ranges Tryz.prog 3 (plainElem Tryz.prog 22) B r nn Dm left cnt) ∧ Hid (Seen cg n (fun v => left (.int .i64 v)) vs) ∧ s12 = .string (numB (T - (vs.map cg).sum)) ∧ Hid (wr.ownsRow w4.heap.size 40 2 s11 vs.length (massC (pr vs))) ∧ Hid (w4.heap.size ≤ wr.heap.size) ∧ Hid (Below w.heap.size w wr)) (fun s11 s12 wr => wr.rangeLeft B r)
 case atStart => exact ⟨_, _, [], RG, S0, by simp [HST.out], hid (by rw [HP0.out]; exact ⟨rfl, .inl ⟨rfl, rfl⟩⟩), hid (Nat.le_refl _), B4⟩
 case round =>
  clear RG S0 B4
  obtain ⟨left, cnt, vs, hrg, hS, rfl, hO, hW, hBl⟩ := hrel
  obtain ⟨ar, cr, rfl⟩ := owns_ex hO.out
  go_wp2_with (first
   | (at_next; refine wpList_next_ranges_is _ rfl _ rfl 3 22 .i64 (int_keyed Tryz.underlying3) Tryz.underlying3 Tryz.underlying22 B r nn _ _ _ rfl hrg.out ?_ ?_)
   | go_in)
  ·intro _ hl0
   have hl1 : ∀ v, (fun v => left (.int .i64 v)) v = false := fun v => hl0 _
   have hrest := HSA.out vs _ hS.out hl1
   obtain ⟨hnd, hsort⟩ := HSP.out vs _ hS.out hl1 gl
   have hvl := HVS.out vs _ hS.out
   have hgT : gl ≤ T := by omega
   rw [hrest]
   have HND := hid hnd; have HSO := hid hsort; have HVL := hid hvl
   have P1 := fun V hV => HMK'.out gl hgT V hV
   obtain ⟨L, hL⟩ : ∃ L, pr vs = L := ⟨_, rfl⟩
   have hLl := HPL.out vs
   rw [hL] at hO HND HSO hLl
   rw [← hLl] at hO hvl ⊢
   have HGT := hid hgT
   have hpos : 0 < (L ++ if gl = 0 then [] else [(lateB, shB gl T)]).length := by
    rw [List.length_append]
    split
    ·rename_i h0
     have : vs ≠ [] := fun e => by subst e; simp at hrest; have := HT0.out; omega
     have := List.length_pos_iff.2 this
     simp; omega
    ·simp
   have HPOS := hid hpos
   clear hl0 hl1 hrest hnd hsort hS hrg hgT hL hLl hpos HVL
   obtain ⟨sg, hsg⟩ : ∃ s, numB gl = s := ⟨_, rfl⟩
   rw [hsg] at P1 ⊢
   have HSG := hid hsg
   clear hsg
   obtain ⟨tb0, htb⟩ : ∃ b, (sg.toList == [48]) = b := ⟨_, rfl⟩
   go_upto_if 67 with fail
   have HTB := hid htb
   clear htb
   go_cut [11] (fun s11 wx => ∃ k, k = (L ++ if gl = 0 then [] else [(lateB, shB gl T)]).length ∧ wx.ownsRow w4.heap.size 40 2 s11 k (massC (L ++ if gl = 0 then [] else [(lateB, shB gl T)])) ∧ w4.heap.size ≤ wx.heap.size ∧ Below w.heap.size w wx)
   case first =>
    by_cases h0 : gl = 0
    ·have e1 : L ++ (if gl = 0 then [] else [(lateB, shB gl T)]) = L := by rw [if_pos h0, List.append_nil]
     have q3 : (sg.toList == [48]) = true := by rw [← HSG.out, h0, numB_zero]; exact lit_zero
     obtain rfl : true = tb0 := by rw [← HTB.out]; exact q3.symm
     have HE1 := hid e1
     clear h0 e1 q3
     go_wp2_with fail
     go_meet
     exact ⟨_, rfl, by rw [HE1.out]; exact hO.out, hW.out, hBl.out⟩
    ·have e1 : L ++ (if gl = 0 then [] else [(lateB, shB gl T)]) = L ++ [(lateB, shB gl T)] := by rw [if_neg h0]
     have q3 : (sg.toList == [48]) = false := by rw [← HSG.out]; exact ne_lit (l := [48]) (by rw [← numB_zero]; exact numB_ne h0)
     obtain rfl : false = tb0 := by rw [← HTB.out]; exact q3.symm
     have HE1 := hid e1
     obtain ⟨sh, hsh⟩ : ∃ s, shB gl T = s := ⟨_, rfl⟩
     rw [hsh] at P1
     have HSH := hid hsh
     clear hsh h0 e1 q3
     go_wp2_with fail
     refine (HPW _ (HLy.out.call hBl.out)).out.mono ?_; rintro e w5 ⟨rfl, hb5⟩
     have B5 := hid (bnext hBl.out hb5); have O5 := hid (owns_call hO.out hb5); have W5 := hid (Nat.le_trans hW.out hb5.size)
     clear hb5
     go_wp2_with fail
     refine (P1 _ (HLy.out.call B5.out)).out.mono ?_; rintro e w6 ⟨rfl, hb6⟩
     have B6 := hid (bnext B5.out hb6); have O6 := hid (owns_call O5.out hb6); have W6 := hid (Nat.le_trans W5.out hb6.size)
     clear hb6
     have hw6 := W6.out
     obtain ⟨hr0, hr1, hr2⟩ := Hr.out
     go_wp2_with (at_builtin; refine wpList_append_own _ rfl _ _ 26 rfl w4.heap.size 40 i0 (.agg #[.string ⟨#[]⟩, .string ⟨#[]⟩]) 2 32 Tryz.underlying26 hi hz0 hz1 hz2 rfl (by decide) _ L.length _ rfl (O6.out.alloc _) ⟨w6.heap.size, 0, none⟩ 1 1 [.string ⟨#[108, 97, 116, 101]⟩, .string sh] rfl rfl (cell_two_new w6 (.string ⟨#[108, 97, 116, 101]⟩) (.string sh) 40) (by simp [Value.oneCell']) (by unfold maxLen; omega) (by omega) (by simp; omega) ?_; intro v' w7 hown7 hgrow7 _)
     have O7 := hid hown7
     have B7 : Hid (Below w.heap.size w w7) := B6.out.trans ((Below.refl _ _).alloc (Nat.le_refl _) _ |>.mono (by have := B6.out.size; omega) |>.trans ⟨hgrow7.os, hgrow7.tape, hgrow7.output, hgrow7.size, fun k hk => hgrow7.block k (by have := B6.out.size; simp; omega) (fun e => by have := (O6.out.lt k e.symm).1; omega)⟩)
     have W7 := hid (show w4.heap.size ≤ w7.heap.size by have := hgrow7.size; simp at this; omega)
     clear hown7 hgrow7 hw6 hr0 hr1 hr2
     go_wp2_with fail
     go_meet
     refine ⟨_, rfl, ?_, W7.out, B7.out⟩
     rw [HE1.out, List.length_append, massC_append, HSH.out]
     exact O7.out
   case rest =>
    obtain ⟨k, rfl, hOx, hWx, hBx⟩ := hcut
    have HB := hid hBx; have HW := hid hWx
    obtain ⟨d, hd⟩ : ∃ d, (L ++ if gl = 0 then [] else [(lateB, shB gl T)]) = d := ⟨_, rfl⟩
    rw [hd] at hOx HND HSO HPOS
    have hdl : d.length ≤ 1000 := by rw [← hd, List.length_append]; split <;> simp <;> omega
    rcases hOx.2 with ⟨_, h0⟩ | ⟨g, cap, cur, rfl, hgb, hg, h1, h2, h3, h4⟩
    ·have := HPOS.out; omega
    ·have hSM := s_SortM 100 g cap w4.heap.size d.toArray wc cur hgb hg (by simpa using h1) h2 h3 (by simpa [massC_length] using h4) (by simpa using hdl) (by simpa using HND.out) (enters_of Tryz.func100 (by kernel_rfl) rfl) (fun x y W => g_order x y W)
     simp only [List.size_toArray] at hSM
     have HSM := hid hSM
     clear hd hdl hSM hOx hWx hBx h1 h2 h3 h4 hg
     go_wp2_with fail
     refine HSM.out.mono ?_; rintro e w8 ⟨rfl, ho8, hb8⟩
     have B8 : Hid (Below w.heap.size w w8) := HB.out.trans (hb8.mono (by have := Hr.out.1; have := Hr.out.2.1; omega))
     have M8 := hid (MRow.of_owns ho8)
     clear ho8 hb8
     go_wp2_with fail
     go_ret2
     refine ⟨⟨_, rfl, ?_⟩, B8.out⟩
     rw [← HSO.out]
     exact M8.out
  ·intro x c w5 cnt1 hwx hwc hlx hat hrg1 hlt hg1 hs1 hen
   have hxc : cg x ≠ 0 := by
    have h1 := has_true_of_atKey hat
    rw [HR.out.has] at h1
    simpa using h1
   have hcx : c = numB (cg x) := by
    have h1 := (HR.out.look x hxc (.lit (.string []))).symm.trans (hat (.lit (.string [])))
    simp only [DataW.lit.injEq, Lit.string.injEq] at h1
    exact (ba_ext h1).symm
   subst hcx
   have hS1 := Seen.step (left' := fun v => (fun z => left z && !z.sameKey (.int .i64 x)) (.int .i64 v)) hS.out (x := x) hlx hxc (fun v => by simp only [sameKey_int])
   have hsum := HSL.out _ _ hS1
   have hsum1 : ((vs ++ [x]).map cg).sum = (vs.map cg).sum + cg x := by simp
   rw [hsum1] at hsum
   have hvl := HVS.out _ _ hS1
   rw [List.length_append, List.length_singleton] at hvl
   have hxb := HOUT.out x hxc
   have P1 := fun V hV => HMK'.out (cg x) (HGV.out x) V hV
   have P2 := fun V hV => HSB'.out (T - (vs.map cg).sum) (cg x) (by omega) (by omega) V hV
   have PI := fun V hV => hid (s_ItoaZ V x (by omega) (by omega) hV)
   have HNX : Hid (T - (vs.map cg).sum - cg x = T - ((vs ++ [x]).map cg).sum) := by show _ = _; rw [hsum1]; omega
   have hb5 : Below w.heap.size w w5 := hBl.out.trans ⟨hg1.os, hg1.tape, hg1.output, hg1.size, fun k hk => hg1.block k (by have := hBl.out.size; omega) (fun e => by have := Hr.out.1; injection e with e; omega)⟩
   have hO5 : w5.ownsRow w4.heap.size 40 2 (.slice ar vs.length cr) vs.length (massC (pr vs)) := hO.out.kept hg1 (.inr fun e => by have := (hO.out.lt r e).1; have := Hr.out.2.1; omega)
   have B5 := hid hb5; have O5 := hid hO5; have RG1 := hid hrg1; have HS1 := hid hS1; have HLT := hid hlt; have W5 := hid (show w4.heap.size ≤ w5.heap.size by have := hW.out; omega)
   have HRG := hid hrg.out
   rw [HNX.out] at P2
   obtain ⟨s1, hs1'⟩ : ∃ s, numB (T - (vs.map cg).sum) = s := ⟨_, rfl⟩
   obtain ⟨s2, hs2⟩ : ∃ s, numB (cg x) = s := ⟨_, rfl⟩
   obtain ⟨s3, hs3⟩ : ∃ s, numB (T - ((vs ++ [x]).map cg).sum) = s := ⟨_, rfl⟩
   obtain ⟨s4, hs4⟩ : ∃ s, shB (cg x) T = s := ⟨_, rfl⟩
   obtain ⟨s5, hs5⟩ : ∃ s, zB x = s := ⟨_, rfl⟩
   rw [hs1', hs2, hs3] at P2
   rw [hs2, hs4] at P1
   rw [hs5] at PI
   rw [hs2] at hen hwc
   rw [hs1', hs2]
   have HS3 := hid hs3; have HS4 := hid hs4; have HS5 := hid hs5
   have HVL := hid hvl
   clear hlx hat hrg1 hlt hg1 hs1 hxc hS1 hsum hsum1 hvl hxb hb5 hO5 hs1' hs2 hs3 hs4 hs5 hrg hS hO hW hBl
   go_wp2_with fail
   refine (HPW _ (HLy.out.call B5.out)).out.mono ?_; rintro e w6 ⟨rfl, hb6⟩
   have B6 := hid (bnext B5.out hb6); have O6 := hid (owns_call O5.out hb6); have R6 := hid (RG1.out.kept (row := none) ⟨hb6.os, hb6.tape, hb6.output, hb6.size, fun k hk _ => hb6.block k hk⟩ (by simp) (by simp)); have W6 := hid (Nat.le_trans W5.out hb6.size)
   clear hb6 hen
   go_wp2_with fail
   refine (P1 _ (HLy.out.call B6.out)).out.mono ?_; rintro e w7 ⟨rfl, hb7⟩
   have B7 := hid (bnext B6.out hb7); have O7 := hid (owns_call O6.out hb7); have R7 := hid (R6.out.kept (row := none) ⟨hb7.os, hb7.tape, hb7.output, hb7.size, fun k hk _ => hb7.block k hk⟩ (by simp) (by simp)); have W7 := hid (Nat.le_trans W6.out hb7.size)
   clear hb7
   go_wp2_with fail
   refine (PI _ (HLy.out.call B7.out)).out.mono ?_; rintro e w8 ⟨rfl, hb8⟩
   have B8 := hid (bnext B7.out hb8); have O8 := hid (owns_call O7.out hb8); have R8 := hid (R7.out.kept (row := none) ⟨hb8.os, hb8.tape, hb8.output, hb8.size, fun k hk _ => hb8.block k hk⟩ (by simp) (by simp)); have W8 := hid (Nat.le_trans W7.out hb8.size)
   clear hb8
   have hw8 := W8.out
   obtain ⟨hr0, hr1, hr2⟩ := Hr.out
   have hvl := HVL.out
   go_wp2_with (at_builtin; refine wpList_append_own _ rfl _ _ 26 rfl w4.heap.size 40 i0 (.agg #[.string ⟨#[]⟩, .string ⟨#[]⟩]) 2 32 Tryz.underlying26 hi hz0 hz1 hz2 rfl (by decide) _ vs.length _ rfl (O8.out.alloc _) ⟨w8.heap.size, 0, none⟩ 1 1 [.string s5, .string s4] rfl rfl (cell_two_new w8 (.string s5) (.string s4) 40) (by simp [Value.oneCell']) (by unfold maxLen; omega) (by omega) (by simp; omega) ?_; intro v' w9 hown9 hgrow9 _)
   have O9 := hid hown9
   have B9 : Hid (Below w.heap.size w w9) := B8.out.trans ((Below.refl _ _).alloc (Nat.le_refl _) _ |>.mono (by have := B8.out.size; omega) |>.trans ⟨hgrow9.os, hgrow9.tape, hgrow9.output, hgrow9.size, fun k hk => hgrow9.block k (by have := B8.out.size; simp; omega) (fun e => by have := (O8.out.lt k e.symm).1; omega)⟩)
   have R9 := hid ((R8.out.alloc (.cells #[.string s5, .string s4] 40)).kept hgrow9 (fun e => by have := (O8.out.lt B e.symm).1; omega) (fun e => by have := (O8.out.lt r e.symm).1; omega))
   have W9 := hid (show w4.heap.size ≤ w9.heap.size by have := hgrow9.size; simp at this; omega)
   clear hown9 hgrow9 hw8 hr0 hr1 hr2 hvl
   go_wp2_with fail
   refine (P2 _ (HLy.out.call B9.out)).out.mono ?_; rintro e w10 ⟨rfl, hb10⟩
   have B10 := hid (bnext B9.out hb10); have O10 := hid (owns_call O9.out hb10); have R10 := hid (R9.out.kept (row := none) ⟨hb10.os, hb10.tape, hb10.output, hb10.size, fun k hk _ => hb10.block k hk⟩ (by simp) (by simp)); have W10 := hid (Nat.le_trans W9.out hb10.size)
   clear hb10
   go_wp2_with fail
   go_roundw
   case rel =>
    refine ⟨_, cnt1, vs ++ [x], R10, HS1, by rw [HS3.out], hid ?_, W10, B10⟩
    rw [List.length_append, List.length_singleton, HPR.out, massC_append, HS4.out, HS5.out]
    exact O10.out
   case measure => rw [R10.out.left_eq, HRG.out.left_eq]; exact HLT.out
end Go.Proofs.YtgphopkifomffaaGreatDoor
namespace Go.Proofs.YtgphopkifomffaaGreatDoor
open Go.RowKit
open Go.Lib (decDigits nDigits)
def glR (a : ByteArray) (n : Int) (two : Bool) : List (ByteArray × ByteArray) := if glE a n 32 = 0 then sortM (glP (gV (bN (cW a)) (bN (qD a)) two n.toNat) (2 ^ n.toNat) n.toNat (gL (bN (cW a)) (bN (qD a)) two n.toNat)) else []
theorem g_listed (w : World) (a : ByteArray) (n : Int) (two : Bool) (ha : a.size ≤ 100000) (hL : Lay w) :
 Calls Tryz.prog 56 #[.string a, .int .i64 n, .bool two] w fun e w' => (∃ v, e = .returned (.tuple #[v, .int .i64 (glE a n 32)]) ∧ MRow w' v (glR a n two)) ∧ Below w.heap.size w w' := by
 by_cases he : gPE a = 0
 ·by_cases hn : n < 0 ∨ 32 < n
  ·have e1 : glE a n 32 = 2 := by unfold glE; rw [if_neg (by rw [he]; simp), if_pos hn]
   have e2 : glR a n two = [] := by unfold glR; rw [if_neg (by rw [e1]; decide)]
   rw [e1, e2]
   have HA := hid (g_ratio w a ha hL)
   rw [if_pos he, if_pos he, he] at HA
   obtain ⟨b1, k1⟩ : ∃ b, decide (n < 0) = b := ⟨_, rfl⟩
   obtain ⟨b2, k2⟩ : ∃ b, decide (32 < n) = b := ⟨_, rfl⟩
   have k3 : (b1 || b2) = true := by rw [← k1, ← k2]; simpa using hn
   clear ha hL he hn e1 e2
   cases b1
   ·obtain rfl : b2 = true := by simpa using k3
    clear k3
    go_enter Tryz.func56, Tryz.ntmps56
    go_wp2_with fail
    refine HA.out.mono ?_; rintro e w1 ⟨rfl, hb1⟩
    have B1 := hid hb1; clear hb1 HA
    go_wp2_with fail
    go_ret2
    exact ⟨⟨_, rfl, MRow.nil _⟩, B1.out⟩
   ·clear k2 k3
    go_enter Tryz.func56, Tryz.ntmps56
    go_wp2_with fail
    refine HA.out.mono ?_; rintro e w1 ⟨rfl, hb1⟩
    have B1 := hid hb1; clear hb1 HA
    go_wp2_with fail
    go_ret2
    exact ⟨⟨_, rfl, MRow.nil _⟩, B1.out⟩
  ·obtain ⟨m, rfl⟩ : ∃ m : Nat, n = (m : Nat) := ⟨n.toNat, by omega⟩
   have e1 : glE a (m : Nat) 32 = 0 := by unfold glE; rw [if_neg (by rw [he]; simp), if_neg hn]
   have hND := (gPE_ok he).2
   have := g_listed_ok (H := Unit) w a m _ _ two ha he (by omega) rfl rfl hND hL
   unfold glR
   rw [if_pos e1, e1, Int.toNat_natCast]
   exact this
 ·have e1 : glE a n 32 = gPE a := by unfold glE; rw [if_pos he]
  have e2 : glR a n two = [] := by unfold glR; rw [if_neg (by rw [e1]; exact he)]
  rw [e1, e2]
  have HA := hid (g_ratio w a ha hL)
  rw [if_neg he, if_neg he] at HA
  obtain ⟨x, hx⟩ : ∃ x, gPE a = x := ⟨_, rfl⟩
  rw [hx] at HA he ⊢
  have x0 : (x != 0) = true := by simpa using he
  clear ha hL he hx e1 e2
  go_enter Tryz.func56, Tryz.ntmps56
  go_wp2_with fail
  refine HA.out.mono ?_; rintro e w1 ⟨rfl, hb1⟩
  have B1 := hid hb1; clear hb1 HA
  go_wp2_with fail
  go_ret2
  exact ⟨⟨_, rfl, MRow.nil _⟩, B1.out⟩
theorem g_TwoLaw (w : World) (a : ByteArray) (n : Int) (ha : a.size ≤ 100000) (hL : Lay w) :
 Calls Tryz.prog 25 #[.string a, .int .i64 n] w fun e w' => (∃ v, e = .returned (.tuple #[v, .int .i64 (glE a n 32)]) ∧ MRow w' v (glR a n true)) ∧ Below w.heap.size w w' := by
 have H := hid (g_listed w a n true ha hL)
 obtain ⟨o, ho⟩ : ∃ o, glR a n true = o := ⟨_, rfl⟩
 obtain ⟨x, hx⟩ : ∃ x, glE a n 32 = x := ⟨_, rfl⟩
 rw [ho, hx] at H ⊢
 clear ha hL ho hx
 go_enter Tryz.func25, Tryz.ntmps25
 go_wp2_with fail
 refine H.out.mono ?_; rintro e w1 ⟨⟨v, rfl, hv⟩, hb1⟩
 have B1 := hid hb1; have V1 := hid hv; clear hb1 hv
 go_wp2_with fail
 go_ret2
 exact ⟨⟨_, rfl, V1.out⟩, B1.out⟩
noncomputable def kz (s : ByteArray) : Option Int := @dite _ (∃ v : Int, s = zB v) (Classical.propDecidable _) (fun h => some (Classical.choose h)) (fun _ => none)
theorem kz_zB (v : Int) : kz (zB v) = some v := by
 unfold kz
 have h : ∃ x : Int, zB v = zB x := ⟨v, rfl⟩
 rw [dif_pos h]
 exact congrArg some (zB_inj (Classical.choose_spec h)).symm
theorem kz_late : kz lateB = none := by
 unfold kz
 rw [dif_neg]
 rintro ⟨v, h⟩
 exact zB_late v (congrArg (fun b : ByteArray => b.data.toList) h.symm)
noncomputable def chS (d : List (ByteArray × ByteArray)) : List Int := d.filterMap fun p => kz p.1
theorem chS_take {d : List (ByteArray × ByteArray)} {i : Nat} {p : ByteArray × ByteArray} (h : d[i]? = some p) : chS (d.take (i + 1)) = chS (d.take i) ++ (kz p.1).toList := by
 unfold chS
 rw [List.take_add_one, h, Option.toList_some, List.filterMap_append]
 congr 1
theorem chS_late {d : List (ByteArray × ByteArray)} {i : Nat} {p : ByteArray × ByteArray} (h : d[i]? = some p) (hp : kz p.1 = none) : chS (d.take (i + 1)) = chS (d.take i) := by
 rw [chS_take h, hp, Option.toList_none, List.append_nil]
theorem chS_num {d : List (ByteArray × ByteArray)} {i : Nat} {p : ByteArray × ByteArray} {v : Int} (h : d[i]? = some p) (hp : kz p.1 = some v) : chS (d.take (i + 1)) = chS (d.take i) ++ [v] := by
 rw [chS_take h, hp]; rfl
theorem chS_length (d : List (ByteArray × ByteArray)) : (chS d).length ≤ d.length := List.length_filterMap_le _ _
theorem chS_glM (g : Int → Nat) (t n : Nat) : (glM g t n).filterMap (fun p => kz p.1) = chA g n := by
 unfold glM chA chV
 rw [List.filterMap_filterMap, List.filter_map, ← List.filterMap_eq_map, ← List.filterMap_eq_filter, List.filterMap_filterMap]
 congr 1
 funext j
 by_cases h : g ((j : Int) - n) = 0
 ·simp [h, Option.guard]
 ·simp [h, Option.guard, kz_zB]
theorem chS_glP (g : Int → Nat) (t n r : Nat) : (chS (sortM (glP g t n r))).Perm (chA g n) := by
 have h : (sortM (glP g t n r)).Perm (glP g t n r) := List.mergeSort_perm _ _
 refine (h.filterMap fun p => kz p.1).trans ?_
 unfold glP
 rw [List.filterMap_append, chS_glM]
 by_cases hr : r = 0
 ·rw [if_pos hr]; simp
 ·rw [if_neg hr]
  simp [kz_late]
theorem runs_glP (g : Int → Nat) (t n r : Nat) : Runs g n (chS (sortM (glP g t n r))) := fun f hf => by
 rw [sV_perm (chS_glP g t n r)]
 exact smV_all hf n
theorem chS_mass {g : Int → Nat} {n r : Nat} {p : ByteArray × ByteArray} (h : p ∈ sortM (glP g (2 ^ n) n r)) : (∃ v : Int, -(n : Int) ≤ v ∧ v ≤ n ∧ p.1 = zB v ∧ kz p.1 = some v ∧ p.2 = dyB (g v) n) ∨ (p.1 = lateB ∧ kz p.1 = none) := by
 rw [sortM_mem, glP_mem] at h
 rcases h with ⟨v, h1, h2, -, rfl⟩ | ⟨-, rfl⟩
 ·exact .inl ⟨v, h1, h2, rfl, kz_zB v, rfl⟩
 ·exact .inr ⟨rfl, kz_late⟩
open Go.Shelf
theorem dec_natS (n : Nat) : Lib.decNat (decDigits n) = some n := by
 have hd := allDig_dec n
 have hne : decDigits n ≠ [] := by
  intro e
  have := Lib.decDigits_length n
  rw [e] at this
  have := nd_pos n
  simp at *
  omega
 unfold Lib.decNat
 rw [if_neg (by simpa using hne), decFrom_dv hd, dv_dec, Nat.mul_zero, Nat.zero_add]
theorem atoi_itoa (v : Int) : Lib.atoi (Lib.itoa v) = some v := by
 unfold Lib.itoa
 split
 ·rename_i h
  unfold Lib.atoi
  show (if ((45 : UInt8) == 45) = true then Option.map (fun (m : Nat) => -(m : Int)) (Lib.decNat (decDigits v.natAbs)) else _) = _
  rw [if_pos (by decide), dec_natS]
  show some (-(v.natAbs : Int)) = some v
  congr 1; omega
 ·rename_i h
  rw [atoi_dec]
  congr 1; omega
theorem b_AtoiZ (w : World) (v : Int) (h1 : -1000 ≤ v) (h2 : v ≤ 1000) :
 Calls Tryz.prog 57 #[.string (zB v)] w fun e w' => e = .returned (.tuple #[.int .i64 v, .nilIface]) ∧ Below w.heap.size w w' := by
 have hs : (zB v).size ≤ 18 := by
  rw [← list_size, zB_list]
  unfold Lib.itoa
  split
  ·have hd := nDigits_le (n := v.natAbs) (k := 4) (by omega) (by omega)
   rw [List.length_cons, Lib.decDigits_length]; omega
  ·have hd := nDigits_le (n := v.toNat) (k := 4) (by omega) (by omega)
   rw [Lib.decDigits_length]; omega
 refine (Tryz.strconv_Atoi (zB v) v hs (by rw [zB_list]; exact atoi_itoa v) w).mono ?_
 rintro e w' ⟨rfl, t, rfl⟩
 exact ⟨rfl, Go.Joins.below_bytesWorld w.heap.size w 5 t (Nat.le_refl _)⟩
end Go.Proofs.YtgphopkifomffaaGreatDoor
namespace Go.Proofs.YtgphopkifomffaaGreatDoor
open Go.RowKit
open Go.Shelf
theorem own_slotK {W : World} {base : Nat} {e : TypeId} {k g n cap : Nat} {xs : List Value} (h : W.ownsRow base e k (.slice (some ⟨g, 0, none⟩) n cap) n xs) : base ≤ g ∧ g < W.heap.size ∧ (∀ i, W.frozen? ⟨g, i, none⟩ = false) ∧ (∀ (i : Nat) (x : Value), xs[i]? = some x → W.cell? ⟨g, i, none⟩ = some x) ∧ cap ≤ 9223372036854775807 ∧ n ≤ cap := by
 have hh := h
 rcases h.2 with ⟨e1, _⟩ | ⟨g', cap', cur, e1, hb, hg, h1, h2, h3, h4⟩
 ·simp at e1
 ·simp at e1
  obtain ⟨rfl, rfl⟩ := e1
  refine ⟨hb, (Array.getElem?_eq_some_iff.1 hg).1, fun i => Blk.free hg i, fun i x hx => ?_, by unfold maxLen at h2; omega, h1⟩
  have := hh.cells rfl i x hx
  rw [Addr.add_lit, Nat.zero_add] at this
  exact this
end Go.Proofs.YtgphopkifomffaaGreatDoor
namespace Go.Proofs.YtgphopkifomffaaGreatDoor
open Go.RowKit
theorem owned_below {w W w3 : World} {t : TypeId} {z : Nat} {v : Value} {m : Nat} {vs : List Value} (h : W.ownsRow w.heap.size t z v m vs) (h0 : Below w.heap.size w W) (hg : W.grownBy w3 v.ownBlock) : Below w.heap.size w w3 := by
 refine h0.trans ⟨hg.os, hg.tape, hg.output, hg.size, fun j hj => hg.block j (Nat.lt_of_lt_of_le hj h0.size) fun e => ?_⟩
 have := (h.lt j e.symm).1
 omega
open Go.Shelf
open Go.Lib (decDigits nDigits)
def cpC (y : Int × ByteArray) : List Value := [.int .i64 y.1, .string y.2]
def cpF (L : List (Int × ByteArray)) : List Value := L.flatMap cpC
theorem cpF_length (L : List (Int × ByteArray)) : (cpF L).length = L.length * 2 := by
 unfold cpF
 induction L with
 | nil => rfl
 | cons p r ih => rw [List.flatMap_cons, List.length_append, ih, List.length_cons]; simp [cpC]; omega
theorem cpF_snoc (L : List (Int × ByteArray)) (y : Int × ByteArray) : cpF (L ++ [y]) = cpF L ++ cpC y := by simp [cpF]
theorem cpF_get {L : List (Int × ByteArray)} : ∀ {i : Nat} {y : Int × ByteArray}, L[i]? = some y → (cpF L)[i * 2]? = some (.int .i64 y.1) ∧ (cpF L)[i * 2 + 1]? = some (.string y.2) := by
 induction L with
 | nil => intro i p h; simp at h
 | cons q r ih =>
  intro i p h
  have hl : (cpC q).length = 2 := rfl
  cases i with
  | zero => simp at h; subst h; exact ⟨rfl, rfl⟩
  | succ i =>
   rw [List.getElem?_cons_succ] at h
   obtain ⟨h1, h2⟩ := ih h
   have e : cpF (q :: r) = cpC q ++ cpF r := rfl
   rw [e]
   refine ⟨?_, ?_⟩
   ·rw [List.getElem?_append_right (by omega), hl, show (i + 1) * 2 - 2 = i * 2 by omega]; exact h1
   ·rw [List.getElem?_append_right (by omega), hl, show (i + 1) * 2 + 1 - 2 = i * 2 + 1 by omega]; exact h2
structure PRow (w : World) (v : Value) (l : List (Int × ByteArray)) : Prop where
 ex : ∃ a c, v = .slice a l.length c ∧ l.length ≤ c ∧ c ≤ 9223372036854775807 ∧ ∀ (i : Nat) (x : Int × ByteArray), l[i]? = some x → ∃ g o, a = some ⟨g, o, none⟩ ∧ g < w.heap.size ∧ w.cell? ⟨g, o + i * 2, none⟩ = some (.int .i64 x.1) ∧ w.cell? ⟨g, o + i * 2 + 1, none⟩ = some (.string x.2)
theorem PRow.call {w w' : World} {v : Value} {l : List (Int × ByteArray)} (h : PRow w v l) (hb : Below w.heap.size w w') : PRow w' v l := by
 obtain ⟨a, c, rfl, h1, h2, h3⟩ := h.ex
 refine ⟨a, c, rfl, h1, h2, fun i x hx => ?_⟩
 obtain ⟨g, o, rfl, hg, k1, k2⟩ := h3 i x hx
 exact ⟨g, o, rfl, Nat.lt_of_lt_of_le hg hb.size, (hb.cell (p := ⟨g, o + i * 2, none⟩) hg).trans k1, (hb.cell (p := ⟨g, o + i * 2 + 1, none⟩) hg).trans k2⟩
theorem PRow.of_owns {w : World} {base n : Nat} {e : TypeId} {v : Value} {L : List (Int × ByteArray)} (h : w.ownsRow base e 2 v n (cpF L)) : PRow w v L := by
 have hn : n = L.length := by have := h.1; rw [cpF_length] at this; omega
 subst hn
 rcases h.2 with ⟨rfl, h0⟩ | ⟨g, cap, cur, rfl, hb, hg, k1, k2, k3, k4⟩
 ·have hl : L = [] := List.length_eq_zero_iff.1 (by omega)
  subst hl
  exact ⟨none, 0, rfl, Nat.le_refl _, by omega, fun i x hx => by simp at hx⟩
 ·obtain ⟨o1, o2, o3, o4, o5, o6⟩ := own_slotK h
  refine ⟨some ⟨g, 0, none⟩, cap, rfl, o6, o5, fun i x hx => ?_⟩
  obtain ⟨f1, f2⟩ := cpF_get hx
  refine ⟨g, 0, rfl, o2, ?_, ?_⟩
  ·rw [Nat.zero_add]; exact o4 _ _ f1
  ·rw [Nat.zero_add]; exact o4 _ _ f2
noncomputable def chT (g : Int → Nat) (n : Nat) (d : List (ByteArray × ByteArray)) (i : Nat) : List (Int × ByteArray) := (chS (d.take i)).map fun v => (v, dyB (g v) n)
theorem chT_late {g : Int → Nat} {n : Nat} {d : List (ByteArray × ByteArray)} {i : Nat} {p : ByteArray × ByteArray} (h : d[i]? = some p) (hp : kz p.1 = none) : chT g n d (i + 1) = chT g n d i := by unfold chT; rw [chS_late h hp]
theorem chT_num {g : Int → Nat} {n : Nat} {d : List (ByteArray × ByteArray)} {i : Nat} {p : ByteArray × ByteArray} {v : Int} (h : d[i]? = some p) (hp : kz p.1 = some v) : chT g n d (i + 1) = chT g n d i ++ [(v, dyB (g v) n)] := by unfold chT; rw [chS_num h hp, List.map_append]; rfl
theorem chT_length (g : Int → Nat) (n : Nat) (d : List (ByteArray × ByteArray)) (i : Nat) : (chT g n d i).length ≤ d.length := by
 unfold chT
 rw [List.length_map]
 refine Nat.le_trans (chS_length _) ?_
 rw [List.length_take]
 omega
def orZ : List Int → Int
 | [] => 0
 | x :: r => if x ≠ 0 then x else orZ r
theorem orZ_at : ∀ {l : List Int} {i : Nat}, (∀ (j : Nat) (x : Int), j < i → l[j]? = some x → x = 0) → orZ l = orZ (l.drop i)
 | [], i, _ => by simp [orZ]
 | b :: r, 0, _ => rfl
 | b :: r, i + 1, h => by
  have h1 := h 0 b (by omega) rfl
  have h3 := orZ_at (l := r) (i := i) (fun j c hj hc => h (j + 1) c (by omega) (by simpa using hc))
  rw [orZ, if_neg (by simp [h1]), h3]
  rfl
theorem s_OrE (w : World) (v : Value) (l : List Int) (hv : Row w v (zs l)) :
 Calls Tryz.prog 68 #[v] w fun e w' => e = .returned (.int .i64 (orZ l)) ∧ w = w' := by
 obtain ⟨a, c, rfl, q1, q2, q3⟩ := hv.openZ
 obtain ⟨n, hn⟩ : ∃ n, l.length = n := ⟨_, rfl⟩
 obtain ⟨X, hX⟩ : ∃ X, orZ l = X := ⟨_, rfl⟩
 rw [hn] at q1 ⊢
 rw [hX]
 have HN := hid hn; have Q3 := hid q3; have HX := hid hX
 clear hv q3 hn hX
 go_enter Tryz.func68, Tryz.ntmps68
 go_wp2_with fail
 go_loop [8] (fun ii => ∃ i : Nat, ii = .int .i64 i ∧ i ≤ n ∧ Hid (∀ (j : Nat) (x : Int), j < i → l[j]? = some x → x = 0)) (fun ii => n - (intOf ii).toNat)
 case atStart => exact ⟨0, rfl, Nat.zero_le _, fun j x hj => absurd hj (by omega)⟩
 case round =>
  obtain ⟨i, rfl, hi, hI⟩ := hrel
  by_cases hlt : i < n
  ·obtain ⟨x, hx⟩ : ∃ x, l[i]? = some x := ⟨_, List.getElem?_eq_getElem (by rw [HN.out]; exact hlt)⟩
   obtain ⟨g, o, rfl, hg, hc⟩ := Q3.out i x hx
   have hdrop : l.drop i = x :: l.drop (i + 1) := by
    have hil : i < l.length := by rw [HN.out]; exact hlt
    rw [List.drop_eq_getElem_cons hil]
    have := List.getElem?_eq_getElem hil
    rw [hx] at this
    rw [Option.some.inj this]
   have HXX := hid hx; have HD := hid hdrop
   have b1 : (0 : Int) ≤ (i : Int) := by omega
   have b2 : (i : Int) < (n : Int) := by omega
   have wi : IntKind.i64.wrap ((i : Int) + 1) = ((i + 1 : Nat) : Int) := by rw [IntWalk.i64_in _ ⟨by omega, by omega⟩]; omega
   clear hx hdrop
   by_cases hx0 : x = 0
   ·have HZ := hid hx0
    have q0 : (x == 0) = true := by rw [beq_iff_eq]; exact hx0
    clear hx0
    go_wp2_with fail
    go_round
    case rel => exact ⟨i + 1, by go_num, by omega, fun j y hj hy => by
     rcases Nat.lt_or_ge j i with h | h
     ·exact hI.out j y h hy
     ·obtain rfl : j = i := by omega
      rw [HXX.out] at hy; cases hy; exact HZ.out⟩
    case measure => simp [intOf] <;> omega
   ·have q0 : (x == 0) = false := by rw [beq_eq_false_iff_ne]; exact hx0
    have HE : Hid (X = x) := by
     show X = x
     rw [← HX.out, orZ_at hI.out, HD.out, orZ, if_pos hx0]
    clear hx0
    go_wp2_with fail
    go_ret
    exact ⟨by rw [HE.out]; rfl, rfl⟩
  ·obtain rfl : i = n := by omega
   have HE : Hid (X = 0) := by
    show X = 0
    have hd : l.drop i = [] := List.drop_eq_nil_of_le (by rw [HN.out]; exact Nat.le_refl _)
    rw [← HX.out, orZ_at hI.out, hd]; rfl
   have q0 : decide ((i : Int) < (i : Int)) = false := by simp
   clear hlt
   go_wp2_with fail
   go_ret
   exact ⟨by rw [HE.out]; rfl, rfl⟩
theorem info_nch : (Tryz.prog.info? 67).map (fun i => (i.zero, i.size, i.bytes)) = some (some (.agg #[.int .i64 0, .string ⟨#[]⟩]), 2, 24) := by kernel_rfl
theorem na_chances (w : World) (v : Value) (d : List (ByteArray × ByteArray)) (g : Int → Nat) (n : Nat) (hv : MRow w v d) (hM : ∀ p ∈ d, (∃ v : Int, -(n : Int) ≤ v ∧ v ≤ n ∧ p.1 = zB v ∧ kz p.1 = some v ∧ p.2 = dyB (g v) n) ∨ (p.1 = lateB ∧ kz p.1 = none)) (hlen : d.length ≤ 100) (hn : n ≤ 32) (hL : LayB w) :
 Calls Tryz.prog 27 #[v] w fun e w' => (∃ u, e = .returned u ∧ w'.ownsRow w.heap.size 67 2 u (chT g n d d.length).length (cpF (chT g n d d.length))) ∧ Below w.heap.size w w' := by
 obtain ⟨i0, hi, hz0, hz1, hz2⟩ := info_parts info_nch
 obtain ⟨ad, cd, rfl, c1, c2, c3⟩ := hv.ex
 have H3 := hid c3
 have HM := hid hM; have HLN := hid hlen; have HN := hid hn; have HL := hid hL
 obtain ⟨L, hLL⟩ : ∃ L, d.length = L := ⟨_, rfl⟩
 have HLL := hid hLL
 rw [hLL] at c1 ⊢
 clear hv c3 hM hlen hn hL hLL
 go_enter Tryz.func27, Tryz.ntmps27
 go_wp2_with fail
 go_loopw [3, 5, 6, 7, 10] (fun s3 s5 s6 s7 s10 wr => ∃ i : Nat, s10 = .int .i64 (i : Nat) ∧ i ≤ L ∧ Hid (wr.ownsRow w.heap.size 67 2 s3 (chT g n d i).length (cpF (chT g n d i))) ∧ Hid (Below w.heap.size w wr)) (fun s3 s5 s6 s7 s10 wr => L - (intOf s10).toNat)
 case atStart => exact ⟨0, rfl, Nat.zero_le _, World.ownsRow_nil _ _ _ _, Below.refl _ _⟩
 case round =>
  obtain ⟨i, rfl, hi', hO, hB⟩ := hrel
  have hl100 := HLN.out
  by_cases hlt : i < L
  ·obtain ⟨q, hq⟩ : ∃ q, d[i]? = some q := ⟨_, List.getElem?_eq_getElem (by rw [HLL.out]; exact hlt)⟩
   obtain ⟨gd, od, rfl, hgd, m1, m2⟩ := H3.out i q hq
   have r1 := (hB.out.cell (p := ⟨gd, od + 2 * i, none⟩) hgd).trans m1
   have r2 := (hB.out.cell (p := ⟨gd, od + 2 * i + 1, none⟩) hgd).trans m2
   rw [Nat.mul_comm 2] at r1 r2
   have f1 : (0 : Int) ≤ (i : Int) := by omega
   have f2 : (i : Int) < (L : Int) := by omega
   have wi : IntKind.i64.wrap ((i : Int) + 1) = ((i + 1 : Nat) : Int) := by rw [HLL.out] at hl100; rw [IntWalk.i64_in _ ⟨by omega, by omega⟩]; omega
   have HLT := hid hlt
   obtain ⟨qk, qv⟩ := q
   dsimp only at r1 r2
   have AM := hid ((Below.refl wr.heap.size wr).alloc (Nat.le_refl _) (.cells #[.string qk, .string qv] 40))
   have XM := hid (Blk.new wr #[.string qk, .string qv] 40)
   have g0 := XM.out.cell 0
   have g1 := XM.out.cell 1
   simp at g0 g1
   rcases HM.out _ (List.mem_of_getElem? hq) with ⟨v, v1, v2, v3, v4, v5⟩ | ⟨v3, v4⟩
   ·dsimp only at v3 v4 v5
    have HT := hid (chT_num (g := g) (n := n) hq v4)
    have PA := fun V => hid (b_AtoiZ V v (by have := HN.out; omega) (by have := HN.out; omega))
    rw [← v3] at PA
    have HQV := hid v5
    have HLB := hid (show (chT g n d i).length ≤ 100 from Nat.le_trans (chT_length g n d i) HLN.out)
    clear hq hgd m1 m2 hlt hi' hl100 v1 v2 v3 v4 v5
    go_wp2_with fail
    refine (PA _).out.mono ?_; rintro e w2 ⟨rfl, hb2⟩
    have x2 := hid (bnext AM.out hb2)
    have XM2 := hid (XM.out.call hb2)
    have k1 := XM2.out.cell 1
    simp at k1
    have HO2 := hid (owns_call hO.out x2.out)
    have HB2 := hid (bnext hB.out x2.out)
    clear hb2 g0 g1 r1 r2
    go_wp2_with (at_builtin; refine wpList_append_own _ rfl _ _ 63 rfl w.heap.size 67 i0 (.agg #[.int .i64 0, .string ⟨#[]⟩]) 2 24 Tryz.underlying63 hi hz0 hz1 hz2 rfl (by decide) _ (chT g n d i).length _ rfl (HO2.out.alloc _) ⟨w2.heap.size, 0, none⟩ 1 1 [.int .i64 v, .string qv] rfl rfl (cell_two_new w2 (.int .i64 v) (.string qv) 67) (by simp [Value.oneCell']) (by have := HLB.out; unfold maxLen; omega) (by have := HLB.out; omega) (by have := HB2.out.size; simp; omega) ?_
                 intro v' w3 hown hgrow _
                 have B3 := hid (owned_below (HO2.out.alloc _) (HB2.out.alloc HB2.out.size (.cells #[.int .i64 v, .string qv] 67)) hgrow)
                 have O3 := hid hown
                 clear hown hgrow)
    go_roundw
    case rel => exact ⟨i + 1, by go_num, by have := HLT.out; omega, by rw [HT.out, cpF_snoc, List.length_append, ← HQV.out]; exact O3.out, B3⟩
    case measure => simp [intOf] <;> (have := HLT.out; omega)
   ·dsimp only at v3 v4
    subst v3
    have HT := hid (chT_late (g := g) (n := n) hq v4)
    have PA := fun V hV => hid (b_AtoiL V hV)
    clear hq hgd m1 m2 hlt hi' hl100 v4
    obtain ⟨lt, hlt⟩ : ∃ s, lateB = s := ⟨_, rfl⟩
    rw [hlt] at PA r1 AM XM
    go_wp2_with fail
    refine (PA _ (HL.out.call (bnext hB.out AM.out)).s).out.mono ?_; rintro e w2 ⟨⟨te, pe, rfl⟩, hb2⟩
    have x2 := hid (bnext AM.out hb2)
    clear hb2 g0 g1 r1 r2
    go_wp2_with fail
    go_roundw
    case rel => exact ⟨i + 1, by go_num, by have := HLT.out; omega, by rw [HT.out]; exact owns_call hO.out x2.out, bnext hB.out x2.out⟩
    case measure => simp [intOf] <;> (have := HLT.out; omega)
  ·obtain rfl : i = L := by omega
   clear hlt hi' hl100
   go_wp2_with fail
   go_ret
   exact ⟨⟨_, rfl, hO.out⟩, hB.out⟩
theorem na_many (w : World) (N m : Nat) (h1 : 1 ≤ N) (h2 : N ≤ 1000) (h3 : m ≤ 1000) :
 Calls Tryz.prog 26 #[.int .i64 (N : Nat), .int .i64 (m : Nat)] w fun e w' => e = .returned (.bool (decide (5000 < N ^ m))) ∧ w = w' := by
 obtain ⟨X, hX⟩ : ∃ X, decide (5000 < N ^ m) = X := ⟨_, rfl⟩
 have HX := hid hX; have H1 := hid h1; have H2 := hid h2; have H3 := hid h3
 rw [hX]
 clear hX h1 h2 h3
 go_enter Tryz.func26, Tryz.ntmps26
 go_wp2_with fail
 go_loop [5, 7] (fun kk ii => ∃ i k : Nat, ii = .int .i64 (i : Nat) ∧ kk = .int .i64 (k : Nat) ∧ i ≤ m ∧ k ≤ 5000 ∧ Hid (k = N ^ i)) (fun kk ii => m - (intOf ii).toNat)
 case atStart => exact ⟨0, 1, rfl, rfl, Nat.zero_le _, by omega, (Nat.pow_zero N).symm⟩
 case round =>
  obtain ⟨i, k, rfl, rfl, hi, hk, hK⟩ := hrel
  have h2 := H2.out; have h3 := H3.out
  by_cases hlt : i < m
  ·obtain ⟨q, hq⟩ : ∃ q, k * N = q := ⟨_, rfl⟩
   have hq5 : q ≤ 5000000 := by rw [← hq]; exact Nat.le_trans (Nat.mul_le_mul hk h2) (by omega)
   have wq : IntKind.i64.wrap ((k : Int) * (N : Int)) = (q : Int) := by
    rw [← Int.natCast_mul, hq, IntWalk.i64_in _ ⟨by omega, by omega⟩]
   have wi : IntKind.i64.wrap ((i : Int) + 1) = ((i + 1 : Nat) : Int) := by rw [IntWalk.i64_in _ ⟨by omega, by omega⟩]; omega
   have b2 : (i : Int) < (m : Int) := by omega
   have HQ : Hid (q = N ^ (i + 1)) := by show q = _; rw [Nat.pow_succ, ← hK.out, hq]
   have hle : N ^ (i + 1) ≤ N ^ m := Nat.pow_le_pow_right H1.out hlt
   have HLE := hid hle; have HLT := hid hlt
   clear hq hle hlt hi hk hK h2 h3
   by_cases hb : 5000 < q
   ·have HE : Hid (X = true) := by show X = true; rw [← HX.out]; exact decide_eq_true (by have := HQ.out; have := HLE.out; omega)
    have t1 : (5000 : Int) < (q : Int) := by omega
    clear hb hq5
    go_wp2_with fail
    go_ret
    exact ⟨by rw [HE.out]; rfl, rfl⟩
   ·have t1 : ¬ (5000 : Int) < (q : Int) := by omega
    have HB := hid hb
    by_cases hn : N = 1
    ·have HE : Hid (X = false) := by show X = false; rw [← HX.out, hn, Nat.one_pow]; rfl
     have t2 : ((N : Int) == 1) = true := by rw [beq_iff_eq]; omega
     clear hb hq5 hn
     go_wp2_with fail
     go_ret
     exact ⟨by rw [HE.out]; rfl, rfl⟩
    ·have t2 : ((N : Int) == 1) = false := by rw [beq_eq_false_iff_ne]; omega
     clear hb hq5 hn
     go_wp2_with fail
     go_round
     case rel => exact ⟨i + 1, q, rfl, rfl, by have := HLT.out; omega, by have := HB.out; omega, HQ⟩
     case measure => simp [intOf] <;> (have := HLT.out; omega)
  ·obtain rfl : i = m := by omega
   have HE : Hid (X = false) := by show X = false; rw [← HX.out]; exact decide_eq_false (by rw [← hK.out]; omega)
   clear hlt hi hk hK h2 h3
   go_wp2_with fail
   go_ret
   exact ⟨by rw [HE.out]; rfl, rfl⟩
theorem row_three (w : World) (p q r : Int) (t : TypeId) : Row (w.alloc (.cells #[.int .i64 p, .int .i64 q, .int .i64 r] t)) (.slice (some ⟨w.heap.size, 0, none⟩) 3 3) (zs [p, q, r]) := by
 refine Row.of_blk (n := 3) (xs := zs [p, q, r]) (Blk.new w #[.int .i64 p, .int .i64 q, .int .i64 r] t) rfl (by decide) (fun i x hx => ?_) (Nat.le_refl _) (by decide)
 match i, hx with
 | 0, hx => exact hx
 | 1, hx => exact hx
 | 2, hx => exact hx
 | i + 3, hx => simp [zs] at hx
theorem na_first (w : World) (v : Value) (l : List Int) (hv : Row w v (zs l)) :
 Calls Tryz.prog 35 #[v] w fun e w' => e = .returned (.int .i64 (orZ l)) ∧ w = w' := by
 have H := hid (s_OrE w v l hv)
 obtain ⟨a, c, rfl, -⟩ := hv.openZ
 clear hv
 go_enter Tryz.func35, Tryz.ntmps35
 go_wp2_with fail
 refine H.out.mono ?_; rintro e w1 ⟨rfl, rfl⟩
 go_wp2_with fail
 go_ret
 exact ⟨rfl, rfl⟩
end Go.Proofs.YtgphopkifomffaaGreatDoor
namespace Go.Proofs.YtgphopkifomffaaGreatDoor
open Go.RowKit
open Go.Lib (decDigits nDigits)
def mxR (s t : ByteArray) : ByteArray := if cmE s t = 0 then (if 0 ≤ cmB s t then s else t) else ⟨#[]⟩
def bydT (F : ByteArray) (M : List (ByteArray × ByteArray)) (t : ByteArray) (p : ByteArray × ByteArray) : ByteArray := op2B (· + ·) t (mxR (op2B (· - ·) p.2 (op2B (· * ·) F (valM M p.1))) ⟨#[48]⟩)
def bydB (F : ByteArray) (L M : List (ByteArray × ByteArray)) : ByteArray := L.foldl (bydT F M) ⟨#[48]⟩
theorem bydB_snoc (F : ByteArray) (L M : List (ByteArray × ByteArray)) (p : ByteArray × ByteArray) : bydB F (L ++ [p]) M = bydT F M (bydB F L M) p := by
 unfold bydB
 rw [List.foldl_append]; rfl
section
variable {G H m K : Nat} (hG0 : G ≠ 0) (hK : 0 < K ∧ K ≤ 3000) (hG : G * 2 ^ m < 10 ^ K) (hH : H * 2 ^ m < 10 ^ K)
include hG0 hK hG hH
theorem byd_den : G * 2 ^ m ≠ 0 := Nat.mul_ne_zero hG0 (pow_ne m)
theorem byd_m : 2 ^ m < 10 ^ K := Nat.lt_of_le_of_lt (Nat.le_mul_of_pos_left _ (by omega)) hG
theorem byd_fit {z : Int} (hz : z.natAbs < 10 ^ (K + 4)) : ¬ ovQ (mkRat z (G * 2 ^ m)) := by
 have h1 := nDigits_le (k := K + 4) (by omega) hz
 have h2 := nDigits_le (k := K) (by omega) hG
 exact (dig_frac (K := 4000) (byd_den hG0 hK hG hH) (by omega) (by omega)).fits (by omega) (by omega)
theorem byd_fitF : ¬ ovQ (mkRat (H : Int) G) := by
 have h1 := nDigits_le (k := K) (by omega) (Nat.lt_of_le_of_lt (Nat.le_mul_of_pos_right H (Nat.pos_of_ne_zero (pow_ne m))) hH)
 have h2 := nDigits_le (k := K) (by omega) (Nat.lt_of_le_of_lt (Nat.le_mul_of_pos_right G (Nat.pos_of_ne_zero (pow_ne m))) hG)
 exact (dig_frac (K := 4000) hG0 (by rw [Int.natAbs_natCast]; omega) (by omega)).fits (by omega) (by omega)
theorem byd_dy {x : Nat} (hx : x ≤ 2 ^ m) : dyB x m = txQ (dyQ x m) ∧ ¬ ovQ (dyQ x m) := by
 have h0 := byd_m hG0 hK hG hH
 have h1 := nDigits_le (k := K) (by omega) (Nat.lt_of_le_of_lt hx h0)
 have h2 := nDigits_le (k := K) (by omega) h0
 refine ⟨shB_tx (pow_ne m) (by omega) (by omega), ?_⟩
 exact (dig_frac (K := 4000) (pow_ne m) (by rw [Int.natAbs_natCast]; omega) (by omega)).fits (by omega) (by omega)
theorem byd_one {x y : Nat} (hx : x ≤ 2 ^ m) (hy : y ≤ 2 ^ m) : mxR (op2B (· - ·) (dyB x m) (op2B (· * ·) (txQ (mkRat (H : Int) G)) (dyB y m))) ⟨#[48]⟩ = txQ (mkRat ((x * G - y * H : Nat) : Int) (G * 2 ^ m)) := by
 have hden := byd_den hG0 hK hG hH
 have hKK : (10 : Nat) ^ K ≤ 10 ^ (K + 4) := Nat.pow_le_pow_right (by omega) (by omega)
 obtain ⟨x1, x2⟩ := byd_dy hG0 hK hG hH hx
 obtain ⟨y1, y2⟩ := byd_dy hG0 hK hG hH hy
 have hyH : y * H < 10 ^ K := Nat.lt_of_le_of_lt (by rw [Nat.mul_comm]; exact Nat.mul_le_mul_left H hy) hH
 have hxG : x * G < 10 ^ K := Nat.lt_of_le_of_lt (by rw [Nat.mul_comm]; exact Nat.mul_le_mul_left G hx) hG
 have e1 : mkRat (H : Int) G * dyQ y m = mkRat ((y * H : Nat) : Int) (G * 2 ^ m) := by
  unfold dyQ
  rw [Rat.mkRat_mul_mkRat, Int.natCast_mul, Int.mul_comm]
 have f1 := byd_fit hG0 hK hG hH (z := ((y * H : Nat) : Int)) (by rw [Int.natAbs_natCast]; omega)
 have o1 := (op2_txt (f := (· * ·)) (byd_fitF hG0 hK hG hH) y2 (by show ¬ ovQ (_ * _); rw [e1]; exact f1)).1
 have e2 : dyQ x m - mkRat ((y * H : Nat) : Int) (G * 2 ^ m) = mkRat (((x * G : Nat) : Int) - ((y * H : Nat) : Int)) (G * 2 ^ m) := by
  have : dyQ x m = mkRat ((x * G : Nat) : Int) (G * 2 ^ m) := by
   unfold dyQ
   rw [Nat.mul_comm G, Int.natCast_mul, Rat.mkRat_mul_right hG0]
  rw [this, Rat.sub_eq_add_neg, Rat.neg_mkRat, Rat.mkRat_add_mkRat _ _ hden hden, ← Int.add_mul, Rat.mkRat_mul_right hden]
  rfl
 have f2 := byd_fit hG0 hK hG hH (z := ((x * G : Nat) : Int) - ((y * H : Nat) : Int)) (by omega)
 have o2 := (op2_txt (f := (· - ·)) x2 f1 (by show ¬ ovQ (_ - _); rw [e2]; exact f2)).1
 have hz0 : (⟨#[48]⟩ : ByteArray) = txQ (mkRat 0 (G * 2 ^ m)) := by
  rw [← shB_zero (G * 2 ^ m)]
  exact shB_tx hden (by rw [nDigits_zero]; omega) (by have := nDigits_le (k := K) (by omega) hG; omega)
 have f3 := byd_fit hG0 hK hG hH (z := 0) (by rw [Int.natAbs_zero]; exact Nat.pow_pos (by omega))
 rw [x1, y1, o1]
 show mxR (op2B _ _ (txQ (_ * _))) _ = _
 rw [e1, o2]
 show mxR (txQ (_ - _)) _ = _
 rw [e2, hz0]
 obtain ⟨c1, c2⟩ := cm_txt f2 f3
 unfold mxR
 rw [c2, if_pos rfl, c1]
 have e3 : mkRat (((x * G : Nat) : Int) - ((y * H : Nat) : Int)) (G * 2 ^ m) - mkRat 0 (G * 2 ^ m) = mkRat (((x * G : Nat) : Int) - ((y * H : Nat) : Int)) (G * 2 ^ m) := by
  rw [Rat.zero_mkRat, Rat.sub_eq_add_neg, show -(0 : Rat) = 0 from rfl, Rat.add_zero]
 unfold ordQ
 rw [e3, sgnQ_mk hden]
 by_cases hc : y * H ≤ x * G
 ·rw [if_pos (by unfold sgnZ; split <;> (try split) <;> omega)]
  congr 2
  omega
 ·rw [if_neg (by unfold sgnZ; split <;> (try split) <;> omega), Nat.sub_eq_zero_of_le (by omega)]
  rfl
theorem byd_all {M : List (ByteArray × ByteArray)} {x y : ByteArray × ByteArray → Nat} : ∀ {L : List (ByteArray × ByteArray)}, L.length ≤ 1000 → (∀ p ∈ L, x p ≤ 2 ^ m ∧ y p ≤ 2 ^ m ∧ p.2 = dyB (x p) m ∧ valM M p.1 = dyB (y p) m) →
 bydB (txQ (mkRat (H : Int) G)) L M = txQ (mkRat (((L.map fun p => x p * G - y p * H).sum : Nat) : Int) (G * 2 ^ m)) ∧ (L.map fun p => x p * G - y p * H).sum ≤ L.length * 10 ^ K := by
 intro L
 induction h : L.length generalizing L with
 | zero =>
  intro _ _
  obtain rfl := List.length_eq_zero_iff.1 h
  refine ⟨?_, by simp⟩
  show (⟨#[48]⟩ : ByteArray) = _
  rw [← shB_zero (G * 2 ^ m)]
  exact shB_tx (byd_den hG0 hK hG hH) (by rw [nDigits_zero]; omega) (by have := nDigits_le (k := K) (by omega) hG; omega)
 | succ k ih =>
  intro hl hp
  obtain ⟨r, p, rfl⟩ : ∃ r p, L = r ++ [p] := ⟨L.dropLast, L.getLast (fun e => by subst e; simp at h), (List.dropLast_concat_getLast _).symm⟩
  rw [List.length_append, List.length_singleton] at h
  obtain ⟨i1, i2⟩ := ih (L := r) (by omega) (by omega) (fun q hq => hp q (List.mem_append_left _ hq))
  obtain ⟨p1, p2, p3, p4⟩ := hp p (by simp)
  have hden := byd_den hG0 hK hG hH
  have hxG : x p * G < 10 ^ K := Nat.lt_of_le_of_lt (by rw [Nat.mul_comm]; exact Nat.mul_le_mul_left G p1) hG
  have hs : (List.map (fun p => x p * G - y p * H) (r ++ [p])).sum = (r.map fun p => x p * G - y p * H).sum + (x p * G - y p * H) := by simp
  have hle : (r.map fun p => x p * G - y p * H).sum + (x p * G - y p * H) ≤ (k + 1) * 10 ^ K := by
   rw [Nat.add_mul, Nat.one_mul]
   have := Nat.sub_le (x p * G) (y p * H)
   omega
  have big : (k + 1) * 10 ^ K < 10 ^ (K + 4) := by
   rw [Nat.pow_add, Nat.mul_comm]
   refine Nat.mul_lt_mul_of_pos_left ?_ (Nat.pow_pos (by omega))
   omega
  rw [hs]
  refine ⟨?_, hle⟩
  rw [bydB_snoc, i1, bydT, p3, p4, byd_one hG0 hK hG hH p1 p2]
  have e : mkRat (((r.map fun p => x p * G - y p * H).sum : Nat) : Int) (G * 2 ^ m) + mkRat ((x p * G - y p * H : Nat) : Int) (G * 2 ^ m) = mkRat (((r.map fun p => x p * G - y p * H).sum + (x p * G - y p * H) : Nat) : Int) (G * 2 ^ m) := by
   rw [Rat.mkRat_add_mkRat _ _ hden hden, ← Int.add_mul, Rat.mkRat_mul_right hden, Int.natCast_add]
  rw [(op2_txt (f := (· + ·)) (byd_fit hG0 hK hG hH (by rw [Int.natAbs_natCast]; omega)) (byd_fit hG0 hK hG hH (by rw [Int.natAbs_natCast]; omega)) (by show ¬ ovQ (_ + _); rw [e]; exact byd_fit hG0 hK hG hH (by rw [Int.natAbs_natCast]; omega))).1]
  show txQ (_ + _) = _
  rw [e]
end
def spB : ByteArray := ⟨#[32]⟩
def jnF (p : ByteArray) : List Int → ByteArray
 | [] => p
 | x :: r => jnF ((p ++ spB) ++ zB x) r
def jn : List Int → ByteArray
 | [] => ⟨#[]⟩
 | x :: r => jnF (zB x) r
def jnS (l : List Int) : ByteArray := if l = [] then ⟨#[]⟩ else jn l ++ spB
theorem jnF_snoc (p : ByteArray) (l : List Int) (x : Int) : jnF p (l ++ [x]) = (jnF p l ++ spB) ++ zB x := by
 induction l generalizing p with
 | nil => rfl
 | cons y r ih => exact ih _
theorem jn_snoc (l : List Int) (x : Int) : jn (l ++ [x]) = jnS l ++ zB x := by
 cases l with
 | nil => refine ba_ext ?_; simp [jn, jnS, jnF]
 | cons y r => unfold jnS; rw [if_neg (by simp)]; exact jnF_snoc _ _ _
def jl : List Int → List UInt8
 | [] => []
 | x :: r => 32 :: (Lib.itoa x ++ jl r)
theorem jnF_list (p : ByteArray) (l : List Int) : (jnF p l).data.toList = p.data.toList ++ jl l := by
 induction l generalizing p with
 | nil => simp [jnF, jl]
 | cons x r ih =>
  rw [jnF, ih, jl]
  simp [spB, zB_list]
theorem jn_list (x : Int) (r : List Int) : (jn (x :: r)).data.toList = Lib.itoa x ++ jl r := by
 rw [jn, jnF_list, zB_list]
theorem itoa_byte {x : Int} {b : UInt8} (h : b ∈ Lib.itoa x) : b = 45 ∨ b ∈ decDigits x.natAbs := by
 unfold Lib.itoa at h
 split at h
 ·rcases List.mem_cons.1 h with h | h
  ·exact .inl h
  ·exact .inr h
 ·exact .inr (by rwa [show x.natAbs = x.toNat by omega])
theorem itoa_no {x : Int} {b : UInt8} (h1 : b ≠ 45) (h2 : ∀ n, b ∉ decDigits n) : b ∉ Lib.itoa x := fun h => by
 rcases itoa_byte h with h | h
 ·exact h1 h
 ·exact h2 _ h
theorem itoa_sp (x : Int) : (32 : UInt8) ∉ Lib.itoa x := itoa_no (by decide) fun n h => absurd (allDig_dec n 32 h) (by decide)
theorem itoa_l (x : Int) : (108 : UInt8) ∉ Lib.itoa x := itoa_no (by decide) fun n h => absurd (allDig_dec n 108 h) (by decide)
theorem sp_cut : ∀ {a b r s : List UInt8}, (32 : UInt8) ∉ a → (32 : UInt8) ∉ b → (r = [] ∨ ∃ r', r = 32 :: r') → (s = [] ∨ ∃ s', s = 32 :: s') → a ++ r = b ++ s → a = b ∧ r = s
 | [], [], _, _, _, _, _, _, h => ⟨rfl, h⟩
 | [], y :: b, r, s, _, hb, hr, _, h => by
  exfalso
  rcases hr with rfl | ⟨r', rfl⟩
  ·cases h
  ·exact hb (List.mem_cons.2 (.inl (List.cons.inj h).1))
 | x :: a, [], r, s, ha, _, _, hs, h => by
  exfalso
  rcases hs with rfl | ⟨s', rfl⟩
  ·cases h
  ·exact ha (List.mem_cons.2 (.inl (List.cons.inj h).1.symm))
 | x :: a, y :: b, r, s, ha, hb, hr, hs, h => by
  obtain ⟨h1, h2⟩ := List.cons.inj h
  obtain ⟨e1, e2⟩ := sp_cut (fun m => ha (List.mem_cons_of_mem _ m)) (fun m => hb (List.mem_cons_of_mem _ m)) hr hs h2
  exact ⟨by rw [h1, e1], e2⟩
theorem jl_head (l : List Int) : jl l = [] ∨ ∃ r, jl l = 32 :: r := by
 cases l with
 | nil => exact .inl rfl
 | cons x r => exact .inr ⟨_, rfl⟩
theorem itoa_inj {x y : Int} (h : Lib.itoa x = Lib.itoa y) : x = y := zB_inj (by unfold zB; rw [h])
theorem jl_inj : ∀ {l m : List Int}, jl l = jl m → l = m
 | [], [], _ => rfl
 | [], _ :: _, h => by cases h
 | _ :: _, [], h => by cases h
 | x :: r, y :: s, h => by
  obtain ⟨e1, e2⟩ := sp_cut (itoa_sp x) (itoa_sp y) (jl_head r) (jl_head s) (List.cons.inj h).2
  rw [itoa_inj e1, jl_inj e2]
theorem itoa_ne (x : Int) : Lib.itoa x ≠ [] := fun h => by
 have h1 : zB x = zB x := rfl
 unfold Lib.itoa at h
 split at h
 ·cases h
 ·exact dec_ne_nil x.toNat h
theorem jn_inj {l m : List Int} (h : jn l = jn m) : l = m := by
 have h : (jn l).data.toList = _ := congrArg (fun b : ByteArray => b.data.toList) h
 cases l with
 | nil =>
  cases m with
  | nil => rfl
  | cons y s =>
   rw [jn_list] at h
   have := (List.append_eq_nil_iff.1 h.symm).1
   exact absurd this (itoa_ne y)
 | cons x r =>
  cases m with
  | nil =>
   rw [jn_list] at h
   have := (List.append_eq_nil_iff.1 h).1
   exact absurd this (itoa_ne x)
  | cons y s =>
   rw [jn_list, jn_list] at h
   obtain ⟨e1, e2⟩ := sp_cut (itoa_sp x) (itoa_sp y) (jl_head r) (jl_head s) h
   rw [itoa_inj e1, jl_inj e2]
theorem jl_l : ∀ l : List Int, (108 : UInt8) ∉ jl l
 | [] => by simp [jl]
 | x :: r => by
  rw [jl]
  intro h
  rcases List.mem_cons.1 h with h | h
  ·exact absurd h (by decide)
  ·rcases List.mem_append.1 h with h | h
   ·exact itoa_l x h
   ·exact jl_l r h
theorem jn_late (l : List Int) : jn l ≠ lateB := fun h => by
 have h : (jn l).data.toList = _ := congrArg (fun b : ByteArray => b.data.toList) h
 have hm : (108 : UInt8) ∈ lateB.data.toList := by decide
 rw [← h] at hm
 cases l with
 | nil => simp [jn] at hm
 | cons x r =>
  rw [jn_list] at hm
  rcases List.mem_append.1 hm with h | h
  ·exact itoa_l x h
  ·exact jl_l r h
def nzX (g : Int → Nat) (vs : List Int) : List Int → List Int → Nat → List (List Int × Nat)
 | [], dn, x => [(dn, x)]
 | c :: cs, dn, x => vs.flatMap fun v => nzX g vs cs (dn ++ [c + v]) (x * g v)
def wN (g : Int → Nat) : List Int → List Int → Nat
 | [], [] => 1
 | c :: cs, y :: ys => g (y - c) * wN g cs ys
 | _, _ => 0
theorem nzX_mem {g : Int → Nat} {vs : List Int} (hv : ∀ v, v ∈ vs ↔ g v ≠ 0) : ∀ {c dn : List Int} {x : Nat} {p : List Int × Nat}, p ∈ nzX g vs c dn x ↔ ∃ ys, wN g c ys ≠ 0 ∧ p = (dn ++ ys, x * wN g c ys)
 | [], dn, x, p => by
  rw [nzX, List.mem_singleton]
  constructor
  ·rintro rfl; exact ⟨[], by simp [wN], by simp [wN]⟩
  ·rintro ⟨ys, h1, rfl⟩
   cases ys with
   | nil => simp [wN]
   | cons y ys => exact absurd rfl h1
 | c :: cs, dn, x, p => by
  rw [nzX, List.mem_flatMap]
  constructor
  ·rintro ⟨v, h1, h2⟩
   obtain ⟨ys, h3, rfl⟩ := (nzX_mem hv).1 h2
   refine ⟨(c + v) :: ys, ?_, ?_⟩
   ·rw [wN, show c + v - c = v by omega]
    exact Nat.mul_ne_zero ((hv v).1 h1) h3
   ·rw [wN, show c + v - c = v by omega, Nat.mul_assoc]; simp
  ·rintro ⟨ys, h1, rfl⟩
   cases ys with
   | nil => exact absurd rfl h1
   | cons y ys =>
    rw [wN] at h1
    refine ⟨y - c, (hv _).2 (Nat.ne_zero_of_mul_ne_zero_left h1), (nzX_mem hv).2 ⟨ys, Nat.ne_zero_of_mul_ne_zero_right h1, ?_⟩⟩
    rw [wN, show c + (y - c) = y by omega, Nat.mul_assoc]; simp
theorem nzX_fst {g : Int → Nat} {vs : List Int} : ∀ {c dn : List Int} {x : Nat} {p : List Int × Nat}, p ∈ nzX g vs c dn x → ∃ ys, p.1 = dn ++ ys
 | [], dn, x, p, h => by
  rw [nzX, List.mem_singleton] at h
  subst h
  exact ⟨[], by simp⟩
 | c :: cs, dn, x, p, h => by
  rw [nzX, List.mem_flatMap] at h
  obtain ⟨v, -, h2⟩ := h
  obtain ⟨ys, e⟩ := nzX_fst h2
  exact ⟨(c + v) :: ys, by rw [e]; simp⟩
theorem nzX_nd {g : Int → Nat} {vs : List Int} (nd : vs.Nodup) : ∀ (c dn : List Int) (x : Nat), (nzX g vs c dn x).Pairwise (fun p q => p.1 ≠ q.1)
 | [], dn, x => by simp [nzX]
 | c :: cs, dn, x => by
  rw [nzX, List.pairwise_flatMap]
  refine ⟨fun v _ => nzX_nd nd cs _ _, ?_⟩
  refine List.Pairwise.imp ?_ nd
  intro v w hvw p hp q hq e
  obtain ⟨ys, e1⟩ := nzX_fst hp
  obtain ⟨zs, e2⟩ := nzX_fst hq
  rw [e1, e2, List.append_assoc, List.append_assoc] at e
  have := List.append_cancel_left e
  simp at this
  exact hvw this.1
theorem nzX_len (g : Int → Nat) (vs : List Int) : ∀ (c dn : List Int) (x : Nat), (nzX g vs c dn x).length = vs.length ^ c.length
 | [], dn, x => rfl
 | c :: cs, dn, x => by
  rw [nzX, List.length_flatMap, List.map_congr_left (g := fun _ => vs.length ^ cs.length) (fun v _ => nzX_len g vs cs _ _), List.length_cons, Nat.pow_succ, Nat.mul_comm, List.map_const', List.sum_replicate_nat]
end Go.Proofs.YtgphopkifomffaaGreatDoor
