/- Texts that the proof rests on, merged: C5, C6, E1, SeqB, E2, E3, E4, E5, R1l, R1m, R2d, R2e, R2f, R2i, R1b, R1d, R1k, R1n. -/
import Derived.Test.YtgphopkifomffaaGreatDoorMp1
import Derived.Deep.LoopGhost
import Derived.RangeFuncBox
import Derived.Scope
import Derived.Laws.IdiomStrings
import Derived.WalkSpells
import Derived.IntWalk
set_option linter.unusedVariables false
set_option linter.unusedSimpArgs false
set_option linter.unusedSectionVars false
set_option maxRecDepth 100000
set_option maxHeartbeats 8000000
namespace Go.Proofs.YtgphopkifomffaaGreatDoor
open Go.RowKit
open Go.Shelf
open Go.Lib (decDigits nDigits)
theorem c_double (V : World) (K : Nat) (hK : K < 10 ^ eK) (hL : Lay V) : Calls Tryz.prog 251 #[.string (numB K), .string (numB K)] V fun e w' => e = .returned (.string (numB (K + K))) ∧ Below V.heap.size V w' := by
 have dK := numB_small hK (by decide) (by decide)
 have h := c_plus V (numB K) (numB K) (numB_sz dK) (numB_sz dK) hL
 rw [natB_num dK dK (numB_small (fit_add hK hK) (by decide) (by decide))] at h
 exact h
theorem c_inc (V : World) (K : Nat) (hK : K < 10 ^ (eK + 1)) (hL : Lay V) : Calls Tryz.prog 251 #[.string (numB K), .string ⟨#[49]⟩] V fun e w' => e = .returned (.string (numB (K + 1))) ∧ Below V.heap.size V w' := by
 have dK := numB_small hK (by decide) (by decide)
 have e1 : (⟨#[49]⟩ : ByteArray) = numB 1 := by unfold numB; rw [dec_one]
 have d1 : nDigits 1 ≤ 4000 := numB_small (n := 1) (k := 1) (by decide) (by decide) (by decide)
 have h := c_plus V (numB K) (numB 1) (numB_sz dK) (numB_sz d1) hL
 rw [natB_num dK d1 (numB_small (k := eK + 1 + 1) (fit_add hK (Nat.lt_of_lt_of_le (show 1 < 10 by decide) (Nat.le_self_pow (by decide) 10))) (by decide) (by decide))] at h
 rw [e1]
 exact h
theorem c_read (w : World) (g bn bd : Nat) (b : ByteArray) (N D K T u : Nat) (ht : Toss w g bn bd b N D K T u) (hf : Fits N D K T) (hL : Lay w) (hs : b.size ≤ 100000) (hu : u < b.size) (hG : LayLt g) :
 Calls Tryz.prog 252 #[.pointer (some ⟨g, 0, none⟩)] w fun e w' =>
  Below g w w' ∧ e = .returned (.func (.func 229) #[.pointer (some ⟨g, 0, none⟩)] #[]) ∧ Toss w' g bn bd b N D (K + K + (if b[u] = 49 then 1 else 0)) (T + T) (u + 1) := by
 have HB := hid ht.blk
 have HN := hid ht.num
 have HD := hid ht.den
 have LN := hid ht.ln
 have LD := hid ht.ld
 have LG := hid (Blk.lt ht.blk)
 have HL := hid hL; have HS := hid hs; have HG := hid hG
 have c1 : w.cell? ⟨g, 1, none⟩ = some (.string (numB K)) := ht.blk.cell 1
 have c2 : w.cell? ⟨g, 2, none⟩ = some (.string (numB T)) := ht.blk.cell 2
 have P1 := fun V hV => hid (c_double V K hf.k hV)
 have P2 := fun V hV => hid (c_double V T hf.t hV)
 have P3 := fun V hV => hid (c_inc V (K + K) (fit_add hf.k hf.k) hV)
 obtain ⟨sk, hsk⟩ : ∃ s, numB K = s := ⟨_, rfl⟩
 obtain ⟨st, hst⟩ : ∃ s, numB T = s := ⟨_, rfl⟩
 rw [hsk] at c1 P1 HB
 rw [hst] at c2 P2 HB
 clear hsk hst ht hf hL hs hG
 go_enter Tryz.func252, Tryz.ntmps252
 go_wp2_with fail
 refine held_lasts2 20 6 [1] [(13, 14), (12, 13), (11, 12), (17, 18), (16, 17), (15, 16), (20, 21), (23, 24)] [0, 2, 3, 4, 5, 6, 7, 8, 9, 11, 12, 13, 14, 15, 16, 17, 18] 2 (fun W' => W'.cell? ⟨g, 1, none⟩ = some (.string sk) ∧ W'.cell? ⟨g, 2, none⟩ = some (.string st)) (by kernel_rfl) (by kernel_rfl) (by kernel_rfl) (by kernel_rfl) (by kernel_rfl) (by kernel_rfl) (by kernel_rfl) (by kernel_rfl) (by kernel_rfl) (by kernel_rfl) (by kernel_rfl) (by kernel_rfl) ⟨c1, c2⟩ ?_
 iterate 1
  refine ⟨_, rfl, ?_⟩
  apply Exists.intro
  refine ⟨.inl ⟨by rfl, ?_⟩, ?_⟩
  ·(intro W' hW'
    clear hW'
    go_simp
    try (with_reducible rfl))
  (dsimp only [Act.put]; try simp only [List.setIfInBounds_toArray, List.set_cons_zero, List.set_cons_succ])
 iterate 17
  refine ⟨_, rfl, ?_⟩
  apply Exists.intro
  refine ⟨.inl ⟨by rfl, ?_⟩, ?_⟩
  ·(intro W' hW'
    obtain ⟨q1, q2⟩ := hW'
    go_simp
    try (with_reducible rfl))
  (dsimp only [Act.put]; try simp only [List.setIfInBounds_toArray, List.set_cons_zero, List.set_cons_succ])
 refine held_one (i := 10) (by kernel_rfl) (by rfl) (by rfl) ?_
 go_wp2_with fail
 refine (P1 _ (HL.out.call (Below.refl _ _).drew)).out.mono ?_; rintro e w1 ⟨rfl, hb1⟩
 have y1 := hid (show Below w.heap.size w w1 from (Below.refl _ _).drew.trans hb1)
 have B1 := hid (HB.out.call y1.out)
 clear hb1
 go_wp2_with fail
 refine ⟨⟨B1.out.cell 1, B1.out.cell 2⟩, ?_⟩
 refine held_one (i := 19) (by kernel_rfl) (by rfl) (by rfl) ?_
 go_wp2_with fail
 refine (P2 _ (HL.out.call y1.out)).out.mono ?_; rintro e w2 ⟨rfl, hb2⟩
 have y2 := hid (bnext y1.out hb2)
 have B2 := hid (HB.out.call y2.out)
 have N2 := hid (HN.out.call y2.out); have D2 := hid (HD.out.call y2.out)
 clear hb2
 go_wp2_with fail
 refine ⟨⟨B2.out.cell 1, B2.out.cell 2⟩, ?_⟩
 refine wpAnyH_done (by kernel_rfl) ?_ _
 simp only [Only, ThenL, List.drop_succ_cons, List.drop_zero]
 have d1 : w2.cell? ⟨g, 1, none⟩ = some (.string sk) := B2.out.cell 1
 have d2 : w2.cell? ⟨g, 2, none⟩ = some (.string st) := B2.out.cell 2
 have f1 := B2.out.free 1
 have f2 := B2.out.free 2
 obtain ⟨kk, hkk⟩ : ∃ s, numB (K + K) = s := ⟨_, rfl⟩
 obtain ⟨tt, htt⟩ : ∃ s, numB (T + T) = s := ⟨_, rfl⟩
 rw [hkk, htt]
 have HKK := hid hkk; have HTT := hid htt
 rw [hkk] at P3
 clear hkk htt c1 c2 P1 P2
 go_wp2_with fail
 simp only [Only]
 have b3 : Blk ((w2.setCell ⟨g, 1, none⟩ (.string kk)).setCell ⟨g, 2, none⟩ (.string tt)) g (tossC b kk tt bn bd false 0 u) 261 := by
  have := (B2.out.set 1 (.string kk)).set 2 (.string tt)
  simpa [tossC] using this
 have z3 : Below g w2 ((w2.setCell ⟨g, 1, none⟩ (.string kk)).setCell ⟨g, 2, none⟩ (.string tt)) := (((Below.refl g w2).setCell (Nat.le_refl _) _).setCell (Nat.le_refl _) _)
 obtain ⟨w3, hw3⟩ : ∃ w3, (w2.setCell ⟨g, 1, none⟩ (.string kk)).setCell ⟨g, 2, none⟩ (.string tt) = w3 := ⟨_, rfl⟩
 rw [hw3] at b3 z3 ⊢
 have B3 := hid b3
 have N3 := hid (N2.out.below z3 LN.out); have D3 := hid (D2.out.below z3 LD.out)
 have y3 := hid ((y2.out.mono (Nat.le_of_lt LG.out)).trans z3)
 have L3 := hid ((HL.out.call y2.out).below z3 HG.out)
 have HZ3 := hid z3
 have HW3 := hid hw3
 clear b3 z3 hw3 d1 d2 f1 f2
 have d0 : w3.cell? ⟨g, 0, none⟩ = some (.string b) := B3.out.cell 0
 have d6 : w3.cell? ⟨g, 6, none⟩ = some (.int .i64 u) := B3.out.cell 6
 have h0 : (0 : Int) ≤ (u : Int) := by omega
 have h1 : (u : Int) < (b.size : Int) := by omega
 go_wp2_with fail
 refine held_plain [0, 1, 2, 3, 4, 5, 6, 7, 8, 9, 10] 0 (fun W' => W'.cell? ⟨g, 0, none⟩ = some (.string b) ∧ W'.cell? ⟨g, 6, none⟩ = some (.int .i64 u)) (by kernel_rfl) (by kernel_rfl) (by kernel_rfl) (by kernel_rfl) ⟨d0, d6⟩ ?_
 iterate 11
  refine ⟨_, rfl, ?_⟩
  apply Exists.intro
  refine ⟨.inl ⟨by rfl, ?_⟩, ?_⟩
  ·(intro W' hW'
    obtain ⟨q1, q2⟩ := hW'
    go_simp
    try (with_reducible rfl))
  (dsimp only [Act.put]; try simp only [List.setIfInBounds_toArray, List.set_cons_zero, List.set_cons_succ])
 refine wpAnyH_done (by kernel_rfl) ?_ _
 simp only [Only]
 have e1 : ((b[u].toNat : Int) == 49) = decide (b[u] = 49) := by
  rw [Bool.eq_iff_iff, beq_iff_eq, decide_eq_true_iff]
  constructor
  ·intro h
   apply UInt8.toNat_inj.1
   simp
   omega
  ·intro h
   rw [h]
   rfl
 rw [e1]
 have d1 : w3.cell? ⟨g, 1, none⟩ = some (.string kk) := B3.out.cell 1
 have f1 := B3.out.free 1
 have f6 := B3.out.free 6
 have q6 : IntKind.i64.wrap ((u : Int) + 1) = (u : Int) + 1 := IntWalk.i64_in _ ⟨by omega, by have := HS.out; omega⟩
 clear e1
 by_cases hb : b[u] = 49
 ·simp only [hb, decide_true, if_true]
  have HBU := hid hb
  clear hb
  go_wp2_with fail
  refine (P3 _ (L3.out.call (Below.refl _ _).drew)).out.mono ?_; rintro e w4 ⟨rfl, hb4⟩
  have y34 := hid (show Below w3.heap.size w3 w4 from (Below.refl _ _).drew.trans hb4)
  clear hb4
  have lg3 := Blk.lt B3.out
  have B4 := hid (B3.out.call y34.out); have N4 := hid (N3.out.call y34.out); have D4 := hid (D3.out.call y34.out)
  have y4 := hid (y3.out.trans (y34.out.mono (Nat.le_of_lt lg3)))
  have g1 : w4.cell? ⟨g, 1, none⟩ = some (.string kk) := B4.out.cell 1
  have g6 : w4.cell? ⟨g, 6, none⟩ = some (.int .i64 u) := B4.out.cell 6
  have k1 := B4.out.free 1
  have k6 := B4.out.free 6
  clear d0 d1 d6 f1 f6 lg3
  go_wp2_with fail
  go_ret
  have r := (B4.out.set 1 (.string (numB (K + K + 1)))).set 6 (.int .i64 ((u : Int) + 1))
  refine ⟨(y4.out.setCell (Nat.le_refl _) _).setCell (Nat.le_refl _) _, rfl, ?_⟩
  refine ⟨?_, (N4.out.other (by simp; have := LN.out; omega) _).other (by simp; have := LN.out; omega) _, (D4.out.other (by simp; have := LD.out; omega) _).other (by simp; have := LD.out; omega) _, LN.out, LD.out⟩
  rw [HTT.out, show ((u + 1 : Nat) : Int) = (u : Int) + 1 by omega]
  exact r
 ·simp only [hb, decide_false, if_false, Nat.add_zero]
  have HBU := hid hb
  clear hb d1 f1
  go_wp2_with fail
  go_ret
  have r := (show Blk w3.drew g (tossC b kk tt bn bd false 0 u) 261 from B3.out).set 6 (.int .i64 ((u : Int) + 1))
  refine ⟨y3.out.drew.setCell (Nat.le_refl _) _, rfl, ?_⟩
  refine ⟨?_, (N3.out).other (by simp; have := LN.out; omega) _, (D3.out).other (by simp; have := LD.out; omega) _, LN.out, LD.out⟩
  rw [HKK.out, HTT.out, show ((u + 1 : Nat) : Int) = (u : Int) + 1 by omega]
  exact r
def drawV (x : Bool × Nat × Nat) : Value := .agg #[.bool x.1, .int .i64 (x.2.1 : Nat), .int .i64 (x.2.2 : Nat)]
def lookV (g : Nat) : Value := .func (.func 229) #[.pointer (some ⟨g, 0, none⟩)] #[]
def readV (g : Nat) : Value := .func (.func 252) #[.pointer (some ⟨g, 0, none⟩)] #[]
def usedOf (w : World) (g : Nat) : Nat := match w.cell? ⟨g, 6, none⟩ with | some (.int _ u) => u.toNat | _ => 0
def drawM (n g : Nat) (nx : Value) (w : World) : Nat := match nx with
 | .func (.func f) _ _ => 2 * (n - usedOf w g) + (if f = 229 then 2 else 1)
 | _ => 0
def DrawI (g bn bd : Nat) (b : ByteArray) (N D : Nat) (nx : Value) (w : World) : Prop :=
 (∃ K T u, nx = lookV g ∧ Toss w g bn bd b N D K T u ∧ Cell K T u ∧ u ≤ b.size ∧ tossAt N D b.data.toList 0 1 0 = tossAt N D b.data.toList K T u) ∨
 (∃ K T u, nx = readV g ∧ Toss w g bn bd b N D K T u ∧ Cell K T u ∧ u < b.size ∧ sdB N D K T = false ∧ tossAt N D b.data.toList 0 1 0 = tossAt N D b.data.toList K T u) ∨
 (∃ (k t : ByteArray) (x : Bool × Nat × Nat), nx = .nilFunc ∧ Blk w g (tossC b k t bn bd x.1 (x.2.1 : Nat) (x.2.2 : Nat)) 261 ∧ x = tossAt N D b.data.toList 0 1 0)
theorem usedOf_blk {w : World} {g bn bd : Nat} {b k t : ByteArray} {d : Bool} {v : Int} {u : Nat} (h : Blk w g (tossC b k t bn bd d v u) 261) : usedOf w g = u := by
 have h6 : w.cell? ⟨g, 6, none⟩ = some (.int .i64 (u : Int)) := h.cell 6
 unfold usedOf
 rw [h6]
 simp
theorem drawM_look {n g : Nat} {w : World} : drawM n g (lookV g) w = 2 * (n - usedOf w g) + 2 := by simp [drawM, lookV]
theorem drawM_read {n g : Nat} {w : World} : drawM n g (readV g) w = 2 * (n - usedOf w g) + 1 := by simp [drawM, readV]
theorem neq_nil (fn : Fn) (bs cs : Array Value) (W : World) : (binOp BinOp.neq 263 (.func fn bs cs) .nilFunc).run Tryz.prog W = .ok (.bool true) W := by
 kernel_rfl
theorem neq_nil2 (W : World) : (binOp BinOp.neq 263 .nilFunc .nilFunc).run Tryz.prog W = .ok (.bool false) W := by
 kernel_rfl
theorem c_Draw_ok (w : World) (p b : ByteArray) (hp : p.size ≤ 100000) (hb : b.size ≤ 256) (hc : chkE b = 0) (he : cPE p = 0) (hL : Lay w) :
 Calls Tryz.prog 192 #[.string p, .string b] w fun e w' => e = .returned (.tuple #[drawV (tossAt (bN (cW p)) (bN (qD p)) b.data.toList 0 1 0), .int .i64 0]) ∧ Below w.heap.size w w' := by
 have HP := fun V hV => hid (c_parts V p hp hV)
 rw [he] at HP
 simp only [if_true] at HP
 have HC := fun V => hid (c_checked V b (by omega))
 rw [hc] at HC
 obtain ⟨e1, e2, hN, hD, hle⟩ := cPE_ok he
 obtain ⟨N, hn⟩ : ∃ N, bN (cW p) = N := ⟨_, rfl⟩
 obtain ⟨D, hd⟩ : ∃ D, bN (qD p) = D := ⟨_, rfl⟩
 rw [hn] at e1 hN
 rw [hd] at e2 hD
 rw [e1, e2] at HP
 rw [hn, hd]
 have HN := hid hN; have HD := hid hD; have HL := hid hL; have HB := hid hb
 have z0 := numB_of (s := (⟨#[48]⟩ : ByteArray)) rfl
 clear hn hd e1 e2 hN hD hle hL hc he hp
 obtain ⟨sn, hsn⟩ : ∃ s, numB N = s := ⟨_, rfl⟩
 obtain ⟨sd, hsd⟩ : ∃ s, numB D = s := ⟨_, rfl⟩
 rw [hsn, hsd] at HP
 have HSN := hid hsn; have HSD := hid hsd
 clear hsn hsd z0 hb
 have e27 : ∀ args w, (callFunc 229 args).run Tryz.prog w = .ok (.enter 229 args) w := enters_of Tryz.func229 (by kernel_rfl) rfl
 have e54 : ∀ args w, (callFunc 252 args).run Tryz.prog w = .ok (.enter 252 args) w := enters_of Tryz.func252 (by kernel_rfl) rfl
 go_enter Tryz.func192, Tryz.ntmps192
 go_wp2_with fail
 refine (HP _ (HL.out.call ((Below.refl _ _).alloc (Nat.le_refl _) _))).out.mono ?_; rintro e w1 ⟨rfl, hb1⟩
 have x1 := hid ((Blk.new w #[.bool false, .int .i64 0, .int .i64 0] 53).call hb1)
 have y1 := hid (bnext ((Below.refl w.heap.size w).alloc (Nat.le_refl _) (.cells #[.bool false, .int .i64 0, .int .i64 0] 53)) hb1)
 clear hb1
 go_wp2_with fail
 refine (HC _).out.mono ?_; rintro e w2 ⟨rfl, hb2⟩
 have x2 := hid (x1.out.call hb2)
 have y2 := hid (bnext y1.out hb2)
 clear hb2
 go_wp2_with fail
 refine (c_sides _ _ _).mono ?_; rintro e w3 ⟨rfl, rfl⟩
 go_wp2_with fail
 have hsz2 : w2.heap.size = w2.heap.size := rfl
 obtain ⟨g, hg⟩ : ∃ g, g = w2.heap.size + 1 + 1 := ⟨_, rfl⟩
 obtain ⟨bn, hbn⟩ : ∃ g, g = w2.heap.size := ⟨_, rfl⟩
 obtain ⟨bd, hbd⟩ : ∃ g, g = w2.heap.size + 1 := ⟨_, rfl⟩
 obtain ⟨W0, hW0⟩ : ∃ W0, (((w2.alloc (Obj.cells #[Value.string sn] 22)).alloc (Obj.cells #[Value.string sd] 22)).alloc
  (Obj.cells #[Value.string b, Value.string { data := #[48] }, Value.string { data := #[49] }, Value.func (Fn.func 249) #[] #[Value.pointer (some { block := w2.heap.size, off := 0 }), Value.pointer (some { block := w2.heap.size + 1, off := 0 })], Value.bool false, Value.int IntKind.i64 0, Value.int IntKind.i64 0] 261)) = W0 := ⟨_, rfl⟩
 rw [hW0, ← hg, ← hbd, ← hbn]
 have t0 : Toss W0 g bn bd b N D 0 1 0 := by
  refine ⟨?_, ?_, ?_, by omega, by omega⟩
  ·rw [← hW0, hbn, hbd]
   have e0 : numB 0 = ⟨#[48]⟩ := by unfold numB; rw [dec_zero]
   have e1 : numB 1 = ⟨#[49]⟩ := by unfold numB; rw [dec_one]
   rw [e0, e1]
   exact Blk.made _ _ _ (by simp; omega)
  ·rw [← hW0, HSN.out, hbn]
   exact ((Blk.new w2 _ _).alloc _).alloc _
  ·rw [← hW0, HSD.out, hbd]
   exact (Blk.made _ _ _ (by simp)).alloc _
 have b0 : Below w2.heap.size w2 W0 := by
  rw [← hW0]
  exact (((Below.refl _ _).alloc (Nat.le_refl _) _).alloc (by simp) _).alloc (by simp; omega) _
 have HG := hid hg
 have hLG : LayLt g := by
  have h1 := (HL.out.call y2.out).lt
  exact ⟨by have := h1.1; omega, by have := h1.2; omega⟩
 have HLG := hid hLG
 have T0 := hid t0
 have B0 := hid b0
 clear hW0 hg hbn hbd t0 b0 hsz2 HP HC hLG
 have hq1 := fun (fn : Fn) (bs cs : Array Value) (W : World) => neq_nil fn bs cs W
 have hq2 := fun (W : World) => neq_nil2 W
 go_loopw [10] (fun nx wr => DrawI g bn bd b N D nx wr ∧ Hid (Below w2.heap.size w2 wr)) (fun nx wr => drawM b.size g nx wr)
 case atStart => exact ⟨.inl ⟨0, 1, 0, rfl, T0.out, ⟨rfl, by omega⟩, by omega, rfl⟩, B0.out⟩
 case round =>
  obtain ⟨hI, hB⟩ := hrel
  rcases hI with ⟨K, T, u, rfl, ht, hc, hu, heq⟩ | ⟨K, T, u, rfl, ht, hc, hu, hsb, heq⟩ | ⟨k, t, x, rfl, hbk, hx⟩
  ·have HT := hid ht; have HCl := hid hc; have HU := hid hu; have HE := hid heq
   have HM := hid (usedOf_blk ht.blk)
   clear ht hc hu heq
   simp only [lookV]
   go_wp2_with fail
   refine (c_look _ g bn bd b N D K T u HT.out (HCl.out.fits (by have := HU.out; have := HB.out; omega) HN.out HD.out) ((HL.out.call y2.out).call hB.out) (by have := HB.out; omega) HU.out).mono ?_
   rintro e w5 ⟨hb5, hcases⟩
   have B5 := hid (hB.out.trans (hb5.mono (by have := HG.out; omega)))
   clear hb5
   rcases hcases with ⟨h1, rfl, h2⟩ | ⟨h1, h3, rfl, h2⟩ | ⟨h1, h3, rfl, h2⟩
   ·have K1 := hid h1; have K2 := hid h2
    clear h1 h2
    go_wp2_with fail
    go_roundw
    case rel => exact ⟨.inr (.inr ⟨_, _, (true, sdV N D K T, u), rfl, K2.out, by rw [HE.out, tossAt_done K1.out]⟩), B5⟩
    case measure => exact (by show drawM b.size g .nilFunc _ < drawM b.size g (lookV g) _; rw [drawM_look]; simp [drawM])
   ·have K1 := hid h1; have K2 := hid h2; have K3 := hid h3
    clear h1 h2 h3
    go_wp2_with fail
    go_roundw
    case rel => exact ⟨.inr (.inr ⟨_, _, (false, 0, u), rfl, K2.out.blk, by rw [HE.out, K3.out, ← list_size, tossAt_late K1.out]⟩), B5⟩
    case measure => exact (by show drawM b.size g .nilFunc _ < drawM b.size g (lookV g) _; rw [drawM_look]; simp [drawM])
   ·have K1 := hid h1; have K2 := hid h2; have K3 := hid h3
    clear h1 h2 h3
    go_wp2_with fail
    go_roundw
    case rel => exact ⟨.inr (.inl ⟨K, T, u, rfl, K2.out, HCl.out, K3.out, K1.out, HE.out⟩), B5⟩
    case measure => exact (by show drawM b.size g (readV g) _ < drawM b.size g (lookV g) _; rw [drawM_look, drawM_read, HM.out, usedOf_blk K2.out.blk]; omega)
  ·have HT := hid ht; have HCl := hid hc; have HU := hid hu; have HE := hid heq; have HSB := hid hsb
   have HM := hid (usedOf_blk ht.blk)
   clear ht hc hu heq hsb
   simp only [readV]
   go_wp2_with fail
   refine (c_read _ g bn bd b N D K T u HT.out (HCl.out.fits (by have := HU.out; have := HB.out; omega) HN.out HD.out) ((HL.out.call y2.out).call hB.out) (by have := HB.out; omega) HU.out HLG.out).mono ?_
   rintro e w5 ⟨hb5, rfl, h2⟩
   have B5 := hid (hB.out.trans (hb5.mono (by have := HG.out; omega)))
   have K2 := hid h2
   clear hb5 h2
   go_wp2_with fail
   go_roundw
   case rel => exact ⟨.inl ⟨_, _, u + 1, rfl, K2.out, HCl.out.next (by split <;> omega), HU.out, by
    rw [HE.out]
    exact tossAt_next HSB.out (by rw [list_size]; exact HU.out)⟩, B5⟩
   case measure => exact (by show drawM b.size g (lookV g) _ < drawM b.size g (readV g) _; rw [drawM_look, drawM_read, HM.out, usedOf_blk K2.out.blk]; have := HU.out; omega)
  ·have HK := hid hbk; have HX := hid hx
   have x3 := hid (x2.out.call hB.out)
   have d4 : wr.cell? ⟨g, 4, none⟩ = some (.bool x.1) := hbk.cell 4
   have d5 : wr.cell? ⟨g, 5, none⟩ = some (.int .i64 (x.2.1 : Nat)) := hbk.cell 5
   have d6 : wr.cell? ⟨g, 6, none⟩ = some (.int .i64 (x.2.2 : Nat)) := hbk.cell 6
   have r0 : wr.cell? ⟨w.heap.size, 0, none⟩ = some (.bool false) := x3.out.cell 0
   have r1 : wr.cell? ⟨w.heap.size, 1, none⟩ = some (.int .i64 0) := x3.out.cell 1
   have r2 : wr.cell? ⟨w.heap.size, 2, none⟩ = some (.int .i64 0) := x3.out.cell 2
   have f0 := x3.out.free 0
   have f1 := x3.out.free 1
   have f2 := x3.out.free 2
   clear hbk hx
   go_wp2_with fail
   have s3 := ((x3.out.set 0 (.bool x.1)).set 1 (.int .i64 (x.2.1 : Nat))).set 2 (.int .i64 (x.2.2 : Nat))
   have k0 := s3.cell 0
   have k1 := s3.cell 1
   have k2 := s3.cell 2
   simp at k0 k1 k2
   refine bodyPost_ret (v := .tuple #[.agg #[.bool x.1, .int .i64 (x.2.1 : Nat), .int .i64 (x.2.2 : Nat)], .int .i64 0]) (by simp [results, Tryz.results192, go_sem, k0, k1, k2]) rfl ⟨by rw [← HX.out]; rfl, ?_⟩
   exact (((y2.out.trans (hB.out.mono y2.out.size)).setCell (Nat.le_refl _) _).setCell (Nat.le_refl _) _).setCell (Nat.le_refl _) _
def gE (a b : ByteArray) : Int := if gPE a ≠ 0 then gPE a else chkE b
theorem g_check (w : World) (a b : ByteArray) (ha : a.size ≤ 100000) (hb : b.size ≤ 100000) (hL : Lay w) :
 Calls Tryz.prog 90 #[.string a, .string b] w fun e w' => e = .returned (.int .i64 (gE a b)) ∧ Below w.heap.size w w' := by
 have HR := hid (g_ratio w a ha hL)
 have HC := fun V => hid (b_Check V b (by omega))
 obtain ⟨s1, hs1⟩ : ∃ s, (if gPE a = 0 then cW a else ⟨#[]⟩) = s := ⟨_, rfl⟩
 obtain ⟨s2, hs2⟩ : ∃ s, (if gPE a = 0 then qD a else ⟨#[]⟩) = s := ⟨_, rfl⟩
 rw [hs1, hs2] at HR
 clear hs1 hs2
 by_cases h1 : gPE a = 0
 ·have e1 : gE a b = chkE b := by rw [gE, if_neg (fun h => h h1)]
  rw [e1]
  rw [h1] at HR
  by_cases h2 : bitB b = true
  ·have e2 : bitE b = 0 := if_pos h2
   rw [e2] at HC
   by_cases h3 : 256 < b.size
   ·have e3 : chkE b = 4 := by rw [chkE, if_pos h2, if_pos h3]
    have q0 : decide ((256 : Int) < (b.size : Int)) = true := by simp; omega
    rw [e3]
    clear h1 h2 h3 e1 e2 e3 hL
    go_enter Tryz.func90, Tryz.ntmps90
    go_wp2_with fail
    refine HR.out.mono ?_; rintro e w1 ⟨rfl, hb1⟩
    have y1 := hid hb1; clear hb1
    go_wp2_with fail
    refine (HC _).out.mono ?_; rintro e w2 ⟨rfl, hb2⟩
    have y2 := hid (bnext y1.out hb2); clear hb2
    go_wp2_with fail
    go_ret
    exact ⟨rfl, y2.out⟩
   ·have e3 : chkE b = 0 := by rw [chkE, if_pos h2, if_neg h3]
    have q0 : decide ((256 : Int) < (b.size : Int)) = false := by simp; omega
    rw [e3]
    clear h1 h2 h3 e1 e2 e3 hL
    go_enter Tryz.func90, Tryz.ntmps90
    go_wp2_with fail
    refine HR.out.mono ?_; rintro e w1 ⟨rfl, hb1⟩
    have y1 := hid hb1; clear hb1
    go_wp2_with fail
    refine (HC _).out.mono ?_; rintro e w2 ⟨rfl, hb2⟩
    have y2 := hid (bnext y1.out hb2); clear hb2
    go_wp2_with fail
    go_ret
    exact ⟨rfl, y2.out⟩
  ·have e2 : bitE b = 3 := if_neg h2
   have e3 : chkE b = 3 := if_neg h2
   rw [e2] at HC
   rw [e3]
   clear h1 h2 e1 e2 e3 hL
   go_enter Tryz.func90, Tryz.ntmps90
   go_wp2_with fail
   refine HR.out.mono ?_; rintro e w1 ⟨rfl, hb1⟩
   have y1 := hid hb1; clear hb1
   go_wp2_with fail
   refine (HC _).out.mono ?_; rintro e w2 ⟨rfl, hb2⟩
   have y2 := hid (bnext y1.out hb2); clear hb2
   go_wp2_with fail
   go_ret
   exact ⟨rfl, y2.out⟩
 ·have e1 : gE a b = gPE a := by rw [gE, if_pos h1]
  rw [e1]
  obtain ⟨x, hx⟩ : ∃ x, gPE a = x := ⟨_, rfl⟩
  rw [hx] at HR h1 ⊢
  have q0 : (x == 0) = false := by simpa using h1
  have q1 : (x != 0) = true := by simpa using h1
  clear h1 e1 hx hL
  go_enter Tryz.func90, Tryz.ntmps90
  go_wp2_with fail
  refine HR.out.mono ?_; rintro e w1 ⟨rfl, hb1⟩
  have y1 := hid hb1; clear hb1
  go_wp2_with fail
  go_ret
  exact ⟨rfl, y1.out⟩
theorem g_coins (w : World) (a b : ByteArray) :
 Calls Tryz.prog 136 #[.string a, .string b] w fun e w' => e = .returned (.func (.func 191) #[] #[.pointer (some ⟨w.heap.size, 0, none⟩), .pointer (some ⟨w.heap.size + 1, 0, none⟩)]) ∧ w' = (w.alloc (.cells #[.string a] 22)).alloc (.cells #[.string b] 34) := by
 go_enter Tryz.func136, Tryz.ntmps136
 go_wp2_with fail
 go_ret
 exact ⟨rfl, rfl⟩
end Go.Proofs.YtgphopkifomffaaGreatDoor
namespace Go.Proofs.YtgphopkifomffaaGreatDoor
open Go.RowKit
def FeedsB {α : Type} (M n : Nat) (P : Program) (g : Nat) (lb : Array Value) (encs : α → Array Value) (Kp : World → World → Prop) (Ok : List α → α → Prop) (S Sp : List α → Prop) (w : World) : Prop :=
 ∀ (l : Nat) (J Jx : List α → World → Prop) (W : World), Below w.heap.size w W → AbidesFrom W.heap.size J → AbidesFrom W.heap.size Jx →
  (∀ pre x W1, Ok pre x → J pre W1 → YieldAt Fence.wide (n - 1) P l (encs x) W1 fun e W2 =>
   (e = .returned (.bool true) ∧ J (pre ++ [x]) W2 ∧ Kp W1 W2) ∨ (e = .returned (.bool false) ∧ Jx (pre ++ [x]) W2)) →
  (∀ pre W1, J pre W1 → pre.length ≤ M) →
  J [] W →
  CallsIn Fence.wide n P g (#[.func (.yield l) #[] #[]] ++ lb) W fun e W2 => (∃ v, e = .returned v) ∧ ((∃ xs, S xs ∧ J xs W2) ∨ (∃ pre, Sp pre ∧ Jx pre W2))
theorem range_okB {α : Type} {P : Program} {n : Nat} {g : Operand} {ps : Array Tmp} {assign body : Code} {Q : Exit → Act → World → Prop} {a : Act} {w : World} (h1 : 1 ≤ n)
 {gf : Nat} {lb : Array Value} (hg : a.eval g = .func (.func gf) #[] lb) (eg : ∀ args w, (callFunc gf args).run P w = .ok (.enter gf args) w)
 {encs : α → Array Value} {Kp : World → World → Prop} {Ok : List α → α → Prop} {S Sp : List α → Prop} {w0 : World} {M : Nat} (hseq : FeedsB M (n - 1) P gf lb encs Kp Ok S Sp w0)
 (hKt : ∀ {A B C : World}, Kp A B → Kp B C → Kp A C) (hKb : ∀ (W : World) (l : Nat) (o o2 : Obj), w.heap.size ≤ l → W.heap[l]? = some o → o.isCells = false → o.isWalk = false → Kp W (W.putObj l o2)) (hb0 : Below w0.heap.size w0 w) (hps : ∀ x, (encs x).size = ps.size)
 (I : List α → World → Prop) (Ix : Code → List α → World → Prop) (hI : OwnFrom w.heap.size I) (hIx : ∀ c, OwnFrom w.heap.size (Ix c)) (h0 : I [] w) (hM : ∀ pre W, I pre W → pre.length ≤ M) (a1 : α → Act)
 (hassign : ∀ (l : Nat) (x : α) (W : World) (K : Act → World → Prop), K (a1 x) W →
  assign.wpIn (Fence.wide.inRound l) (n - 1 - 1) P (Exit.then K (fun _ _ _ => False)) { tmps := (ps.zip (encs x)).foldl (fun t (p, v) => t.setIfInBounds p v) a.tmps, defers := [] } W)
 (hbody : ∀ (l : Nat) (pre : List α) (x : α) (W : World), Ok pre x → I pre W → body.wpIn (Fence.wide.inRound l) (n - 1 - 1) P (ownPostG w.heap.size Kp I Ix (pre ++ [x]) W) (a1 x) W)
 (hdone : ∀ (D : Nat) (xs : List α) (W : World), w.heap.size ≤ D → S xs → I xs W → W.heap[D]? = some (.deferred (some [])) → Q .normal { a with defers := { target := .collected D, args := #[] } :: a.defers } W)
 (hstop : ∀ (D : Nat) (c : Code) (pre : List α) (W : World), w.heap.size ≤ D → Sp pre → Ix c pre W → W.heap[D]? = some (.deferred (some [])) → c.wpIn Fence.wide n P Q { a with defers := { target := .collected D, args := #[] } :: a.defers } W) :
 (Code.rangeFunc g ps assign body).wpIn Fence.wide n P Q a w := by
 refine wpIn_rangeFunc fun fn hfn => ?_
 obtain ⟨R, hR⟩ : ∃ R : LoopState → Option Code → Loop, ∀ s p, R s p = { state := s, pending := p, fn, tmps := a.tmps, params := ps, assign, body, defers := w.heap.size } := ⟨_, fun _ _ => rfl⟩
 have hs : ∀ s p, (R s p).state = s := fun s p => by rw [hR]
 obtain ⟨W1, e1⟩ : ∃ W1, W1 = (w.alloc (.deferred (some []))).alloc (.loop (R .ready none)) := ⟨_, rfl⟩
 have z1 : w.heap.size ≤ W1.heap.size := by rw [e1]; simp; omega
 have k1 : Kept w.heap.size (R .ready none) W1 := by
  rw [e1]
  refine ⟨?_, (Below.heap_alloc _ _ _ (by simp)).trans (World.alloc_heap_new w _)⟩
  have := World.alloc_heap_new (w.alloc (.deferred (some []))) (.loop (R .ready none))
  rwa [World.size_alloc] at this
 have i1 : I [] W1 := by rw [e1]; exact hI.alloc _ (hI.alloc _ h0)
 have b1 : Below w0.heap.size w0 W1 := by
  have : Below w.heap.size w W1 := by rw [e1]; exact ((Below.refl _ w).alloc (Nat.le_refl _) _).alloc (by simp) _
  exact hb0.trans (this.mono hb0.size)
 refine ⟨w.heap.size + 1, [{ target := .collected w.heap.size, args := #[] }], W1, { target := .fn (.func gf) lb, args := #[.func (.yield (w.heap.size + 1)) #[] #[]] }, W1, gf, #[.func (.yield (w.heap.size + 1)) #[] #[]] ++ lb, W1, ?_, ?_, fun f hf => trivial, ?_, fun _ => h1, ?_⟩
 ·have := run_enterLoop_outer (P := P) (w := w) fn a.tmps ps assign body
  rw [e1, hR]; exact this
 ·simp only [resolve, hg]
  simp [go_sem]
 ·simp [invoke, go_sem, eg]
 ·refine (hseq (w.heap.size + 1) (fun pre W => I pre W ∧ Kept w.heap.size (R .ready none) W) (fun pre W => ∃ c, Ix c pre W ∧ Kept w.heap.size (R .done (some c)) W) W1 b1
   (fun s A B row hs hg2 hr => ⟨hI s A B row hs.1 hg2 (fun k e => ?_), hs.2.cells hg2 (fun k e => (hr k e).2)⟩)
   (fun s A B row hs hg2 hr => ?_) (fun pre x W hok hJ => ?_) (fun pre W h => hM pre W h.1) ⟨i1, k1⟩).mono ?_
  ·obtain ⟨h2, o, h3, h4⟩ := hr k e
   exact ⟨Nat.le_trans z1 h2, o, h3, Obj.not_cells_of_walk h4⟩
  ·obtain ⟨c, hc, hk⟩ := hs
   refine ⟨c, hIx c s A B row hc hg2 (fun k e => ?_), hk.cells hg2 (fun k e => (hr k e).2)⟩
   obtain ⟨h2, o, h3, h4⟩ := hr k e
   exact ⟨Nat.le_trans z1 h2, o, h3, Obj.not_cells_of_walk h4⟩
  ·obtain ⟨hi, hk⟩ := hJ
   have hy := run_yield (P := P) (args := encs x) hk.loop (by rw [hR]; exact hps x)
   have kb := hk.put (R .busy none)
   have bg := run_beginRound (P := P) hk.loop (hs _ _)
   rw [show ({ R .ready none with state := .busy } : Loop) = R .busy none by rw [hR, hR]] at bg
   have kk : Kp W (W.putObj (w.heap.size + 1) (.loop (R .busy none))) := hKb _ _ _ _ (by omega) hk.loop rfl rfl
   rw [hR] at hy
   refine ⟨fn, _, assign, body, hy, roundIn_of_wpIn hfn (hassign _ x W _ ⟨_, bg, ?_⟩)⟩
   refine wpIn_mono (hbody _ pre x _ hok (own_put hI hk (Nat.le_refl _) hi _)) ?_
   have fin : ∀ (j : Option Code) (W3 : World), Kept w.heap.size (R .busy none) W3 → (Instr.endRound (w.heap.size + 1) j).run P W3 = .ok (.bool j.isNone) (W3.putObj (w.heap.size + 1) (.loop (R (if j.isNone then .ready else .done) j))) := fun j W3 h3 => by
    have := run_endRound (P := P) j h3.loop
    rw [this, hR, hR]
   rintro e a3 W3 hp
   cases e with
   | normal =>
    obtain ⟨p1, p2, p3⟩ := hp
    have k3 := kb.from p1 (Nat.le_refl _)
    exact ⟨_, _, fin none W3 k3, .inl ⟨rfl, ⟨own_put hI k3 (Nat.le_refl _) p3 _, k3.put _⟩, hKt (hKt kk p2) (hKb _ _ _ _ (by omega) k3.loop rfl rfl)⟩⟩
   | ret =>
    have k3 := kb.from hp.1 (Nat.le_refl _)
    exact ⟨_, _, fin (some .ret) W3 k3, .inr ⟨rfl, .ret, own_put (hIx _) k3 (Nat.le_refl _) hp.2 _, k3.put _⟩⟩
   | exit id =>
    have k3 := kb.from hp.1 (Nat.le_refl _)
    exact ⟨_, _, fin (some (.exit id)) W3 k3, .inr ⟨rfl, .exit id, own_put (hIx _) k3 (Nat.le_refl _) hp.2 _, k3.put _⟩⟩
   | goto t =>
    have k3 := kb.from hp.1 (Nat.le_refl _)
    exact ⟨_, _, fin (some (.goto t)) W3 k3, .inr ⟨rfl, .goto t, own_put (hIx _) k3 (Nat.le_refl _) hp.2 _, k3.put _⟩⟩
   | panic ch => exact hp.elim
   | outgrown => exact hp.elim
  ·have en : ∀ {s p W2}, Kept w.heap.size (R s p) W2 → s ≠ .busy → (Instr.endLoop (w.heap.size + 1)).run P W2 = .ok p (W2.putObj (w.heap.size + 1) (.loop (R .exhausted p))) := fun {s p W2} h2 hne => by
    have := run_endLoop (P := P) h2.loop (by rw [hs]; exact hne)
    rw [this, hR, hR]
   rintro e W2 ⟨⟨v, rfl⟩, ⟨xs, hS, hi, hk⟩ | ⟨pre, hSp, c, hi, hk⟩⟩
   ·exact ⟨none, _, en hk (by simp), hdone _ xs _ (Nat.le_refl _) hS (own_put hI hk (Nat.le_refl _) hi _) (hk.put (R .exhausted none)).calls⟩
   ·exact ⟨some c, _, en hk (by simp), hstop _ c pre _ (Nat.le_refl _) hSp (own_put (hIx c) hk (Nat.le_refl _) hi _) (hk.put (R .exhausted (some c))).calls⟩
open Go.Shelf
open Go.Lib (decDigits nDigits)
attribute [local go_sem] Oper.semAt_some
theorem bit_drop {b : ByteArray} (h : chkE b = 0) (p : Nat) : chkE (b.extract p b.size) = 0 ∧ (b.extract p b.size).data.toList = b.data.toList.drop p ∧ (b.extract p b.size).size ≤ 256 := by
 have hl : b.data.toList.length = b.size := list_size b
 have e : (b.extract p b.size).data.toList = b.data.toList.drop p := by
  rw [extract_list, List.take_of_length_le (by rw [List.length_drop]; omega)]
 unfold chkE at h
 split at h
 ·rename_i hb
  split at h
  ·cases h
  ·rename_i h2
   have hs : (b.extract p b.size).size ≤ 256 := by
    have := list_size (b.extract p b.size)
    rw [e, List.length_drop] at this
    omega
   refine ⟨?_, e, hs⟩
   have hb2 : bitB (b.extract p b.size) = true := by
    unfold bitB at hb ⊢
    rw [e]
    rw [List.all_eq_true] at hb ⊢
    exact fun x hx => hb x (List.mem_of_mem_drop hx)
   rw [chkE, if_pos hb2, if_neg (by omega)]
 ·cases h
theorem coins_feeds {Kp : World → World → Prop} (M n : Nat) (hn : 1 ≤ n) (w : World) (ba bb : Nat) (a b : ByteArray) (hKr : ∀ W, Kp W W) (hKt : ∀ {A B C : World}, Kp A B → Kp B C → Kp A C) (ha : a.size ≤ 100000) (hc : chkE b = 0) (he : cPE a = 0)
 (hread : ∀ W1 W2, Below w.heap.size w W1 → Kp W1 W2 → W2.cell? ⟨ba, 0, none⟩ = some (.string a) ∧ W2.cell? ⟨bb, 0, none⟩ = some (.string b) ∧ Lay W2) (hKb : ∀ W1 W2, Below W1.heap.size W1 W2 → Kp W1 W2) :
 FeedsB M n Tryz.prog 191 #[.pointer (some ⟨ba, 0, none⟩), .pointer (some ⟨bb, 0, none⟩)] (fun x : Nat × Nat => #[.int .i64 (x.1 : Int), .int .i64 (x.2 : Int)]) Kp
  (fun pre x => (coinF (bN (cW a)) (bN (qD a)) b.data.toList (posOf pre)).1 = true ∧ x = (posOf pre + (coinF (bN (cW a)) (bN (qD a)) b.data.toList (posOf pre)).2.2, (coinF (bN (cW a)) (bN (qD a)) b.data.toList (posOf pre)).2.1))
  (fun xs => (coinF (bN (cW a)) (bN (qD a)) b.data.toList (posOf xs)).1 = false) (fun _ => True) w := by
 intro l J Jx W hW hJ hJx hY hM h0
 have HR := hid hread; have HY := hid hY; have HW := hid hW; have HJ := hid hJ; have HJx := hid hJx; have HM := hid hM
 have HKr := hid hKr; have HKt : Hid (∀ A B C : World, Kp A B → Kp B C → Kp A C) := fun A B C h k => hKt h k
 have HKb := hid hKb
 have HC := hid hc; have HE := hid he; have HA := hid ha
 clear hread hY hW hJ hJx hKr hKt hM hKb hc he ha
 refine callsIn_of_wp Tryz.func191 rfl trivial ?_ rfl
 simp only [Tryz.ntmps191, List.size_toArray, List.length_cons, List.length_nil, Nat.reduceAdd, Nat.reduceSub, Array.replicate_succ, Array.replicate_zero, List.push_toArray, List.append_toArray, List.nil_append, List.cons_append]
 gi_wp2
 obtain ⟨RR, hRR⟩ : ∃ RR : Nat → Value → World → Prop, RR = fun k i wr => ∃ pre : List (Nat × Nat), i = .int .i64 (posOf pre : Nat) ∧ posOf pre ≤ b.size ∧ k + pre.length = M ∧ J pre wr ∧ Kp W wr := ⟨_, rfl⟩
 have HRR := hid hRR
 clear hRR
 gi_loopw [4, 5, 6] (fun i x5 x6 wr => ∃ k, RR k i wr) (fun i x5 x6 wr => leastOf (fun k => RR k i wr))
 case atStart => exact ⟨M, by rw [HRR.out]; exact ⟨[], rfl, Nat.zero_le _, by simp, h0, HKr.out W⟩⟩
 case round =>
  obtain ⟨hk, hmin⟩ := leastOf_spec hrel
  obtain ⟨k, hkk⟩ : ∃ k, leastOf (fun k => RR k u4 wr) = k := ⟨_, rfl⟩
  rw [hkk] at hk hmin
  rw [HRR.out] at hk
  obtain ⟨pre, rfl, hp, hlen, hJ, hK⟩ := hk
  obtain ⟨c0, c1, hLay⟩ := HR.out W wr HW.out hK
  obtain ⟨p, hpp⟩ : ∃ p, posOf pre = p := ⟨_, rfl⟩
  obtain ⟨q1, q2, q3⟩ := bit_drop HC.out p
  have q4 := fun V hV => hid (c_Draw_ok V a (b.extract p b.size) HA.out q3 q1 HE.out hV)
  rw [q2] at q4
  obtain ⟨x, hx⟩ : ∃ x, tossAt (bN (cW a)) (bN (qD a)) (b.data.toList.drop p) 0 1 0 = x := ⟨_, rfl⟩
  rw [hx] at q4
  have hxc : coinF (bN (cW a)) (bN (qD a)) b.data.toList p = x := hx
  have hle := coinF_le (N := bN (cW a)) (D := bN (qD a)) (l := b.data.toList) (p := p) (by rw [list_size, ← hpp]; exact hp)
  rw [hxc, list_size] at hle
  have HX := hid hxc; have HLE := hid hle; have HP := hid hpp; have HLEN := hid hlen; have HJw := hid hJ; have HK := hid hK; have HLay := hid hLay
  have HREL := hid hrel; have HKK := hid hkk
  rw [hpp] at hp ⊢ HREL
  have h0 : (0 : Int) ≤ (p : Int) := by omega
  have h1 : (p : Int) ≤ (b.size : Int) := by omega
  clear hx hxc hle hpp hlen hJ hK hLay q1 q2 q3 hmin hrel hkk hp
  obtain ⟨d, v, u⟩ := x
  simp only [drawV] at q4
  gi_wp2_with fail
  refine wpIn_wide.2 ?_
  refine held_plain [0, 1, 2, 3] 7 (fun W' => W'.cell? ⟨ba, 0, none⟩ = some (.string a) ∧ W'.cell? ⟨bb, 0, none⟩ = some (.string b)) (by kernel_rfl) (by kernel_rfl) (by kernel_rfl) (by kernel_rfl) ⟨c0, c1⟩ ?_
  iterate 4
   refine ⟨_, rfl, ?_⟩
   apply Exists.intro
   refine ⟨.inl ⟨by rfl, ?_⟩, ?_⟩
   ·(intro W' hW'
     obtain ⟨q1, q2⟩ := hW'
     go_simp
     try (with_reducible rfl))
   (dsimp only [Act.put]; try simp only [List.setIfInBounds_toArray, List.set_cons_zero, List.set_cons_succ])
  refine held_two (i := 4) (j := 8) (by kernel_rfl) (by rfl) (by rfl) (by rfl) (by rfl) ?_ ?_
  ·go_wp2_with fail
   refine (q4 _ (HLay.out.call (Below.refl _ _).drew)).out.mono ?_; rintro e w1 ⟨rfl, hb1⟩
   have y1 := hid (show Below wr.heap.size wr w1 from (Below.refl _ _).drew.trans hb1)
   have s0 := (y1.out.cell (cell_lt c0)).trans c0
   have s1 := (y1.out.cell (cell_lt c1)).trans c1
   clear hb1
   go_wp2_with fail
   refine ⟨⟨s0, s1⟩, ?_⟩
   refine held_more (is := [5, 6, 7]) (g := 3) (by kernel_rfl) rfl ⟨s0, s1⟩ (by kernel_rfl) ?_
   iterate 3
    refine ⟨_, rfl, ?_⟩
    apply Exists.intro
    refine ⟨.inl ⟨by rfl, ?_⟩, ?_⟩
    ·(intro W' hW'
      clear hW'
      go_simp
      try (with_reducible rfl))
    (dsimp only [Act.put]; try simp only [List.setIfInBounds_toArray, List.set_cons_zero, List.set_cons_succ])
   refine held_one (i := 8) (by kernel_rfl) (by rfl) (by rfl) ?_
   go_wp2_with fail
   have s2 := ((Below.refl w1.heap.size w1).alloc (Nat.le_refl _) (.cells #[.bool false, .int .i64 0, .int .i64 0] 53))
   have s3 := (s2.cell (cell_lt s0)).trans s0
   have s4 := (s2.cell (cell_lt s1)).trans s1
   refine ⟨⟨s3, s4⟩, ?_⟩
   refine held_one (i := 9) (by kernel_rfl) (by rfl) (by rfl) ?_
   have bk := Blk.new w1 #[.bool false, .int .i64 0, .int .i64 0] 53
   have r0 : (w1.alloc (.cells #[.bool false, .int .i64 0, .int .i64 0] 53)).cell? ⟨w1.heap.size, 0, none⟩ = some (.bool false) := bk.cell 0
   have r1 : (w1.alloc (.cells #[.bool false, .int .i64 0, .int .i64 0] 53)).cell? ⟨w1.heap.size, 1, none⟩ = some (.int .i64 0) := bk.cell 1
   have r2 : (w1.alloc (.cells #[.bool false, .int .i64 0, .int .i64 0] 53)).cell? ⟨w1.heap.size, 2, none⟩ = some (.int .i64 0) := bk.cell 2
   have f0 := bk.free 0
   have f1 := bk.free 1
   have f2 := bk.free 2
   obtain ⟨dB, hdB⟩ : ∃ n, w1.heap.size = n := ⟨_, rfl⟩
   have HDB := hid hdB
   have LT0 := hid (cell_lt s0); have LT1 := hid (cell_lt s1)
   obtain ⟨w2, hw2⟩ : ∃ w2, w1.alloc (.cells #[.bool false, .int .i64 0, .int .i64 0] 53) = w2 := ⟨_, rfl⟩
   rw [hw2] at s3 s4 bk r0 r1 r2 f0 f1 f2 ⊢
   rw [hw2] at s2
   rw [hdB] at bk r0 r1 r2 f0 f1 f2 s2 LT0 LT1 ⊢
   have BK := hid bk
   have y2 := hid (y1.out.trans (s2.mono (by have := y1.out.size; omega)))
   clear s0 s1 s2 hdB hw2 bk
   go_wp2_with fail
   have bk3 : Blk (((w2.setCell ⟨dB, 0, none⟩ (.bool d)).setCell ⟨dB, 1, none⟩ (.int .i64 (v : Nat))).setCell ⟨dB, 2, none⟩ (.int .i64 (u : Nat))) dB #[.bool d, .int .i64 (v : Nat), .int .i64 (u : Nat)] 53 := by
    have := ((BK.out.set 0 (.bool d)).set 1 (.int .i64 (v : Nat))).set 2 (.int .i64 (u : Nat))
    simpa using this
   have y3 : Below wr.heap.size wr (((w2.setCell ⟨dB, 0, none⟩ (.bool d)).setCell ⟨dB, 1, none⟩ (.int .i64 (v : Nat))).setCell ⟨dB, 2, none⟩ (.int .i64 (u : Nat))) :=
    have hge : wr.heap.size ≤ dB := by rw [← HDB.out]; exact y1.out.size
    ((y2.out.setCell hge _).setCell hge _).setCell hge _
   obtain ⟨V, hV⟩ : ∃ V, ((w2.setCell ⟨dB, 0, none⟩ (.bool d)).setCell ⟨dB, 1, none⟩ (.int .i64 (v : Nat))).setCell ⟨dB, 2, none⟩ (.int .i64 (u : Nat)) = V := ⟨_, rfl⟩
   rw [hV] at bk3 y3 ⊢
   have s5 := (y3.cell (cell_lt c0)).trans c0
   have s6 := (y3.cell (cell_lt c1)).trans c1
   have BV := hid bk3; have YV := hid y3
   clear hV bk3 y3 r0 r1 r2 f0 f1 f2 s3 s4
   refine ⟨⟨s5, s6⟩, ?_⟩
   refine held_one (i := 10) (by kernel_rfl) (by rfl) (by rfl) ?_
   go_wp2_with fail
   refine ⟨⟨s5, s6⟩, ?_⟩
   refine wpAnyH_done (by kernel_rfl) ?_ _
   simp only [Only]
   have e0 : V.cell? ⟨dB, 0, none⟩ = some (.bool d) := BV.out.cell 0
   have e1 : V.cell? ⟨dB, 1, none⟩ = some (.int .i64 (v : Nat)) := BV.out.cell 1
   have e2 : V.cell? ⟨dB, 2, none⟩ = some (.int .i64 (u : Nat)) := BV.out.cell 2
   have ew : IntKind.i64.wrap ((p : Int) + (u : Nat)) = ((p + u : Nat) : Int) := by
    have h2 := HLE.out
    have h3 := (bit_drop HC.out 0).2.2
    have h4 : b.size ≤ 256 := by
     have h5 := (bit_drop HC.out 0).2.1
     have h6 := list_size (b.extract 0 b.size)
     rw [h5, List.drop_zero, list_size] at h6
     omega
    rw [IntWalk.i64_in _ ⟨by omega, by omega⟩]
    omega
   clear s5 s6
   have hJV : J pre V := HJ.out pre wr V none HJw.out ⟨YV.out.os, YV.out.tape, YV.out.output, YV.out.size, fun k hk _ => YV.out.block k hk⟩ (fun r e => by cases e)
   have hKV : Kp W V := HKt.out _ _ _ HK.out (HKb.out _ _ YV.out)
   have HJV := hid hJV; have HKV := hid hKV
   clear hJV hKV
   cases d
   ·gi_wp2_with fail
    refine ⟨fun f hf => (by cases hf), ?_⟩
    gi_wp2_with fail
    refine bodyPost_ret (results_none rfl _ _ _) rfl ?_
    exact ⟨⟨_, rfl⟩, .inl ⟨pre, by rw [HP.out, HX.out], HJV.out⟩⟩
   ·obtain ⟨fn, tmps, assign, body, hy, hR⟩ := HY.out pre (p + u, v) V ⟨by rw [HP.out, HX.out], by rw [HP.out, HX.out]⟩ HJV.out
    dsimp only at hy
    rw [Int.natCast_add] at hy
    have HYR := hid hR
    gi_wp2_with fail
    refine HYR.out.mono ?_
    rintro e W3 (⟨rfl, hJ3, hk3⟩ | ⟨rfl, hJx3⟩)
    ·have hM3 := HM.out _ _ hJ3
     rw [List.length_append, List.length_singleton] at hM3
     have RN := hid (show RR (k - 1) (.int .i64 ((p : Int) + (u : Nat))) W3 from by
      rw [HRR.out]
      refine ⟨pre ++ [(p + u, v)], by rw [posOf_snoc, Int.natCast_add], by rw [posOf_snoc]; exact HLE.out, ?_, hJ3, HKt.out _ _ _ HKV.out hk3⟩
      rw [List.length_append, List.length_singleton]
      have := HLEN.out
      omega)
     have HK1 := hid (show 1 ≤ k from by have := HLEN.out; omega)
     clear hJ3 hk3 hM3 hy hR
     gi_wp2_with fail
     go_roundw
     case rel => exact ⟨_, RN.out⟩
     case measure =>
      have h1 := (leastOf_spec (p := fun k => RR k (.int .i64 ((p : Int) + (u : Nat))) W3) ⟨_, RN.out⟩).2 _ RN.out
      have h2 := HKK.out
      rw [HP.out] at h2
      have h3 := HK1.out
      show leastOf (fun k => RR k (.int .i64 ((p : Int) + (u : Nat))) W3) < leastOf (fun k => RR k (.int .i64 (p : Nat)) wr)
      rw [h2]
      omega
    ·clear hy hR
     gi_wp2_with fail
     refine bodyPost_ret (results_none rfl _ _ _) rfl ?_
     exact ⟨⟨_, rfl⟩, .inr ⟨_, trivial, hJx3⟩⟩
  ·go_wp2_with fail
   have b0 : Blk (wr.alloc (.cells #[.bool false, .int .i64 0, .int .i64 0] 53)).drew wr.heap.size #[.bool false, .int .i64 0, .int .i64 0] 53 := Blk.new wr #[.bool false, .int .i64 0, .int .i64 0] 53
   have a0 : Below wr.heap.size wr (wr.alloc (.cells #[.bool false, .int .i64 0, .int .i64 0] 53)).drew := ((Below.refl _ _).alloc (Nat.le_refl _) _).drew
   obtain ⟨dB, hdB⟩ : ∃ n, wr.heap.size = n := ⟨_, rfl⟩
   have HDB := hid hdB
   obtain ⟨w1, hw1⟩ : ∃ w1, (wr.alloc (.cells #[.bool false, .int .i64 0, .int .i64 0] 53)).drew = w1 := ⟨_, rfl⟩
   rw [hw1] at b0 a0 ⊢
   rw [hdB] at b0 ⊢
   have A0 := hid a0; have BB0 := hid b0
   have s0 := (a0.cell (cell_lt c0)).trans c0
   have s1 := (a0.cell (cell_lt c1)).trans c1
   clear hw1 hdB a0 b0
   refine ⟨⟨s0, s1⟩, ?_⟩
   refine held_one (i := 4) (by kernel_rfl) (by rfl) (by rfl) ?_
   go_wp2_with fail
   refine (q4 _ (HLay.out.call A0.out)).out.mono ?_; rintro e w2 ⟨rfl, hb2⟩
   have y2 := hid (A0.out.trans (hb2.mono A0.out.size))
   have BK := hid (BB0.out.call hb2)
   have s3 := (y2.out.cell (cell_lt c0)).trans c0
   have s4 := (y2.out.cell (cell_lt c1)).trans c1
   clear hb2 s0 s1
   go_wp2_with fail
   refine ⟨⟨s3, s4⟩, ?_⟩
   refine held_more (is := [5, 6, 7]) (g := 2) (by kernel_rfl) rfl ⟨s3, s4⟩ (by kernel_rfl) ?_
   iterate 3
    refine ⟨_, rfl, ?_⟩
    apply Exists.intro
    refine ⟨.inl ⟨by rfl, ?_⟩, ?_⟩
    ·(intro W' hW'
      clear hW'
      go_simp
      try (with_reducible rfl))
    (dsimp only [Act.put]; try simp only [List.setIfInBounds_toArray, List.set_cons_zero, List.set_cons_succ])
   have r0 : w2.cell? ⟨dB, 0, none⟩ = some (.bool false) := BK.out.cell 0
   have r1 : w2.cell? ⟨dB, 1, none⟩ = some (.int .i64 0) := BK.out.cell 1
   have r2 : w2.cell? ⟨dB, 2, none⟩ = some (.int .i64 0) := BK.out.cell 2
   have f0 := BK.out.free 0
   have f1 := BK.out.free 1
   have f2 := BK.out.free 2
   refine held_one (i := 9) (by kernel_rfl) (by rfl) (by rfl) ?_
   go_wp2_with fail
   have bk3 : Blk (((w2.setCell ⟨dB, 0, none⟩ (.bool d)).setCell ⟨dB, 1, none⟩ (.int .i64 (v : Nat))).setCell ⟨dB, 2, none⟩ (.int .i64 (u : Nat))) dB #[.bool d, .int .i64 (v : Nat), .int .i64 (u : Nat)] 53 := by
    have := ((BK.out.set 0 (.bool d)).set 1 (.int .i64 (v : Nat))).set 2 (.int .i64 (u : Nat))
    simpa using this
   have y3 : Below wr.heap.size wr (((w2.setCell ⟨dB, 0, none⟩ (.bool d)).setCell ⟨dB, 1, none⟩ (.int .i64 (v : Nat))).setCell ⟨dB, 2, none⟩ (.int .i64 (u : Nat))) :=
    have hge : wr.heap.size ≤ dB := by rw [← HDB.out]; exact Nat.le_refl _
    ((y2.out.setCell hge _).setCell hge _).setCell hge _
   obtain ⟨V, hV⟩ : ∃ V, ((w2.setCell ⟨dB, 0, none⟩ (.bool d)).setCell ⟨dB, 1, none⟩ (.int .i64 (v : Nat))).setCell ⟨dB, 2, none⟩ (.int .i64 (u : Nat)) = V := ⟨_, rfl⟩
   rw [hV] at bk3 y3 ⊢
   have s5 := (y3.cell (cell_lt c0)).trans c0
   have s6 := (y3.cell (cell_lt c1)).trans c1
   have BV := hid bk3; have YV := hid y3
   clear hV bk3 y3 r0 r1 r2 f0 f1 f2 s3 s4
   refine ⟨⟨s5, s6⟩, ?_⟩
   refine held_one (i := 10) (by kernel_rfl) (by rfl) (by rfl) ?_
   go_wp2_with fail
   refine ⟨⟨s5, s6⟩, ?_⟩
   refine wpAnyH_done (by kernel_rfl) ?_ _
   simp only [Only]
   have e0 : V.cell? ⟨dB, 0, none⟩ = some (.bool d) := BV.out.cell 0
   have e1 : V.cell? ⟨dB, 1, none⟩ = some (.int .i64 (v : Nat)) := BV.out.cell 1
   have e2 : V.cell? ⟨dB, 2, none⟩ = some (.int .i64 (u : Nat)) := BV.out.cell 2
   have ew : IntKind.i64.wrap ((p : Int) + (u : Nat)) = ((p + u : Nat) : Int) := by
    have h2 := HLE.out
    have h3 := (bit_drop HC.out 0).2.2
    have h4 : b.size ≤ 256 := by
     have h5 := (bit_drop HC.out 0).2.1
     have h6 := list_size (b.extract 0 b.size)
     rw [h5, List.drop_zero, list_size] at h6
     omega
    rw [IntWalk.i64_in _ ⟨by omega, by omega⟩]
    omega
   clear s5 s6
   have hJV : J pre V := HJ.out pre wr V none HJw.out ⟨YV.out.os, YV.out.tape, YV.out.output, YV.out.size, fun k hk _ => YV.out.block k hk⟩ (fun r e => by cases e)
   have hKV : Kp W V := HKt.out _ _ _ HK.out (HKb.out _ _ YV.out)
   have HJV := hid hJV; have HKV := hid hKV
   clear hJV hKV
   cases d
   ·gi_wp2_with fail
    refine ⟨fun f hf => (by cases hf), ?_⟩
    gi_wp2_with fail
    refine bodyPost_ret (results_none rfl _ _ _) rfl ?_
    exact ⟨⟨_, rfl⟩, .inl ⟨pre, by rw [HP.out, HX.out], HJV.out⟩⟩
   ·obtain ⟨fn, tmps, assign, body, hy, hR⟩ := HY.out pre (p + u, v) V ⟨by rw [HP.out, HX.out], by rw [HP.out, HX.out]⟩ HJV.out
    dsimp only at hy
    rw [Int.natCast_add] at hy
    have HYR := hid hR
    gi_wp2_with fail
    refine HYR.out.mono ?_
    rintro e W3 (⟨rfl, hJ3, hk3⟩ | ⟨rfl, hJx3⟩)
    ·have hM3 := HM.out _ _ hJ3
     rw [List.length_append, List.length_singleton] at hM3
     have RN := hid (show RR (k - 1) (.int .i64 ((p : Int) + (u : Nat))) W3 from by
      rw [HRR.out]
      refine ⟨pre ++ [(p + u, v)], by rw [posOf_snoc, Int.natCast_add], by rw [posOf_snoc]; exact HLE.out, ?_, hJ3, HKt.out _ _ _ HKV.out hk3⟩
      rw [List.length_append, List.length_singleton]
      have := HLEN.out
      omega)
     have HK1 := hid (show 1 ≤ k from by have := HLEN.out; omega)
     clear hJ3 hk3 hM3 hy hR
     gi_wp2_with fail
     go_roundw
     case rel => exact ⟨_, RN.out⟩
     case measure =>
      have h1 := (leastOf_spec (p := fun k => RR k (.int .i64 ((p : Int) + (u : Nat))) W3) ⟨_, RN.out⟩).2 _ RN.out
      have h2 := HKK.out
      rw [HP.out] at h2
      have h3 := HK1.out
      show leastOf (fun k => RR k (.int .i64 ((p : Int) + (u : Nat))) W3) < leastOf (fun k => RR k (.int .i64 (p : Nat)) wr)
      rw [h2]
      omega
    ·clear hy hR
     gi_wp2_with fail
     refine bodyPost_ret (results_none rfl _ _ _) rfl ?_
     exact ⟨⟨_, rfl⟩, .inr ⟨_, trivial, hJx3⟩⟩
attribute [local go_sem] Oper.semAt_some
structure KpS (n0 b1 b2 : Nat) (W W' : World) : Prop where
 size : W.heap.size ≤ W'.heap.size
 rest : n0 ≤ W.heap.size → b1 < W.heap.size → b2 < W.heap.size → Below n0 W W' ∧ W'.heap[b1]? = W.heap[b1]? ∧ W'.heap[b2]? = W.heap[b2]?
theorem KpS.refl (n0 b1 b2 : Nat) (W : World) : KpS n0 b1 b2 W W := ⟨Nat.le_refl _, fun _ _ _ => ⟨Below.refl _ _, rfl, rfl⟩⟩
theorem KpS.trans {n0 b1 b2 : Nat} {A B C : World} (h : KpS n0 b1 b2 A B) (k : KpS n0 b1 b2 B C) : KpS n0 b1 b2 A C :=
 ⟨Nat.le_trans h.size k.size, fun h1 h2 h3 => by
  obtain ⟨x, y, z⟩ := h.rest h1 h2 h3
  obtain ⟨x', y', z'⟩ := k.rest (Nat.le_trans h1 h.size) (Nat.lt_of_lt_of_le h2 h.size) (Nat.lt_of_lt_of_le h3 h.size)
  exact ⟨x.trans x', y'.trans y, z'.trans z⟩⟩
theorem KpS.of_below {n0 b1 b2 : Nat} {W W' : World} (h : Below W.heap.size W W') : KpS n0 b1 b2 W W' := ⟨h.size, fun h1 h2 h3 => ⟨h.mono h1, h.block _ h2, h.block _ h3⟩⟩
theorem KpS.put {n0 b1 b2 : Nat} {w : World} (h1 : n0 ≤ w.heap.size) (h2 : b1 < w.heap.size) (h3 : b2 < w.heap.size) (W : World) (l : Nat) (o o' : Obj) (hl : w.heap.size ≤ l) (h : W.heap[l]? = some o) (hc : o.isCells = false) (hw : o.isWalk = false) : KpS n0 b1 b2 W (W.putObj l o') := by
 have hs : W.heap.size ≤ (W.putObj l o').heap.size := by simp [World.putObj]
 refine ⟨hs, fun _ _ _ => ⟨?_, ?_, ?_⟩⟩
 ·exact ⟨rfl, rfl, rfl, hs, fun k hk => World.putObj_heap_other (by omega)⟩
 ·exact World.putObj_heap_other (by omega)
 ·exact World.putObj_heap_other (by omega)
def SerI (B many N D : Nat) (l : List UInt8) (pre : List (Nat × Nat)) (W : World) : Prop := ∃ m vs n v, 1 ≤ m ∧ vs.length + m = many ∧ sr N D l many 0 [] 0 = sr N D l m (posOf pre) vs n ∧ posOf pre ≤ l.length ∧
 pre.length + (l.length - posOf pre + m) ≤ l.length + many ∧ n ≤ pre.length ∧ Boxed W (B + 1) 24 v ∧ W.ownsRow B 3 1 v (vs.length + 1) (ints .i64 (vs ++ [n]))
theorem SerI.own {B C many N D : Nat} {l : List UInt8} : OwnFrom C (SerI B many N D l) := by
 rintro s X Y row ⟨m, vs, n, v, h1, h2, h3, h4, h5, h6, hv, hr⟩ hg hrow
 refine ⟨m, vs, n, v, h1, h2, h3, h4, h5, h6, hv.kept hg (fun e' => ?_), hr.kept hg ?_⟩
 ·obtain ⟨-, o, ho, hc⟩ := hrow _ e'.symm
  rw [show X.heap[B + 1]? = _ from hv] at ho; cases ho; cases hc
 ·rcases hr.2 with ⟨rfl, _⟩ | ⟨g, cap, cur, rfl, _, hgb, _⟩
  ·exact .inl rfl
  ·refine .inr fun e' => ?_
   obtain ⟨-, o, ho, hc⟩ := hrow g (by simpa [Value.ownBlock] using e'.symm)
   rw [hgb] at ho; cases ho; cases hc
def SerX (A B many N D : Nat) (l : List UInt8) (W : World) : Prop := ∃ vs x v, sr N D l many 0 [] 0 = some (vs, x) ∧ vs.length = many ∧ Blk W (A + 1) #[v] 24 ∧ Blk W (A + 1 + 1) #[.int .i64 (x : Nat)] 3 ∧ Blk W (A + 1 + 1 + 1) #[.bool true] 4 ∧ W.ownsRow B 3 1 v vs.length (ints .i64 vs)
theorem SerX.keptX {A B many N D : Nat} {l : List UInt8} {X Y : World} {row : Option Nat} (h : SerX A B many N D l X) (hg : X.grownBy Y row) (hrow : ∀ r, row = some r → ∃ o : Obj, X.heap[r]? = some o ∧ o.isCells = false) : SerX A B many N D l Y := by
 obtain ⟨vs, x, v, h1, h2, h3, h4, h5, hr⟩ := h
 refine ⟨vs, x, v, h1, h2, h3.kept hg hrow, h4.kept hg hrow, h5.kept hg hrow, hr.kept hg ?_⟩
 rcases hr.2 with ⟨rfl, _⟩ | ⟨g, cap, cur, rfl, _, hgb, _⟩
 ·exact .inl rfl
 ·refine .inr fun e' => ?_
  obtain ⟨o, ho, hc⟩ := hrow g (by simpa [Value.ownBlock] using e'.symm)
  rw [hgb] at ho; cases ho; cases hc
def SerOut (r : Option (List Nat × Nat)) (e : Ending) (w' : World) : Prop := match r with
 | none => e = .returned (.tuple #[.slice none 0 0, .int .i64 0, .bool false])
 | some (vs, x) => ∃ v, e = .returned (.tuple #[v, .int .i64 (x : Nat), .bool true]) ∧ Row w' v (ints .i64 vs)
theorem g_series (w : World) (a b : ByteArray) (many : Nat) (h1 : 1 ≤ many) (h2 : many ≤ 1000) (ha : a.size ≤ 100000) (hc : chkE b = 0) (he : cPE a = 0) (hND : bN (cW a) < bN (qD a)) (hL : Lay w) :
 Calls Tryz.prog 91 #[.string a, .string b, .int .i64 (many : Nat)] w fun e w' => SerOut (sr (bN (cW a)) (bN (qD a)) b.data.toList many 0 [] 0) e w' ∧ Below w.heap.size w w' := by
 have HL := hid hL; have HC := hid hc; have HE := hid he; have HND := hid hND; have H1 := hid h1; have H2 := hid h2; have HA := hid ha
 have hbs : b.size ≤ 256 := by
  have h5 := (bit_drop hc 0).2.1
  have h6 := list_size (b.extract 0 b.size)
  have h7 := (bit_drop hc 0).2.2
  rw [h5, List.drop_zero, list_size] at h6
  omega
 have HBS := hid hbs
 clear hL hc he hND ha hbs
 obtain ⟨N, hN⟩ : ∃ N, bN (cW a) = N := ⟨_, rfl⟩
 obtain ⟨D, hD⟩ : ∃ N, bN (qD a) = N := ⟨_, rfl⟩
 have HN := hid hN; have HD := hid hD
 rw [hN, hD] at HND ⊢
 clear hN hD
 obtain ⟨L, hL⟩ : ∃ L, b.data.toList = L := ⟨_, rfl⟩
 have HLL := hid (show L.length = b.size from by rw [← hL]; exact list_size b)
 have HLQ := hid hL
 rw [hL]
 clear hL
 refine (callsIn_wide (n := 9)).1 ?_
 refine callsIn_of_wp_marks Tryz.func91 rfl trivial ?_ rfl
 simp only [Tryz.ntmps91, List.size_toArray, List.length_cons, List.length_nil, Nat.reduceAdd, Nat.reduceSub, Array.replicate_succ, Array.replicate_zero, List.push_toArray, List.append_toArray, List.nil_append, List.cons_append]
 gi_wp2_with fail
 refine wpIn_scope ?_
 gi_wp2_with fail
 refine wpIn_label ?_
 gi_wp2_with (refine ⟨trivial, ?_⟩; gi_at_call 136; refine (callsIn_wide.2 (g_coins _ _ _)).mono ?_; rintro e w' ⟨rfl, rfl⟩)
 obtain ⟨i0, hi, hz0, hz1, hz2⟩ := info_parts info_i64
 obtain ⟨W0, hW0⟩ : ∃ W0, (((((((w.alloc (.cells #[.int .i64 (many : Nat)] 3)).alloc (.cells #[.slice none 0 0] 24)).alloc (.cells #[.int .i64 0] 3)).alloc (.cells #[.bool false] 4)).alloc (.cells #[.int .i64 0] 3)).alloc
  (.cells #[.slice (some ⟨w.heap.size + 1 + 1 + 1 + 1, 0, none⟩) 1 1] 24)).alloc (.cells #[.string a] 22)).alloc (.cells #[.string b] 34) = W0 := ⟨_, rfl⟩
 have y0 : Blk W0 w.heap.size #[.int .i64 (many : Nat)] 3 := by rw [← hW0]; exact (((((((Blk.new w _ _).alloc _).alloc _).alloc _).alloc _).alloc _).alloc _).alloc _
 have y1 : Blk W0 (w.heap.size + 1) #[.slice none 0 0] 24 := by rw [← hW0]; exact ((((((Blk.made _ _ _ (by simp)).alloc _).alloc _).alloc _).alloc _).alloc _).alloc _
 have y2 : Blk W0 (w.heap.size + 1 + 1) #[.int .i64 0] 3 := by rw [← hW0]; exact (((((Blk.made _ _ _ (by simp)).alloc _).alloc _).alloc _).alloc _).alloc _
 have y3 : Blk W0 (w.heap.size + 1 + 1 + 1) #[.bool false] 4 := by rw [← hW0]; exact ((((Blk.made _ _ _ (by simp)).alloc _).alloc _).alloc _).alloc _
 have y4 : Blk W0 (w.heap.size + 1 + 1 + 1 + 1) #[.int .i64 0] 3 := by rw [← hW0]; exact (((Blk.made _ _ _ (by simp)).alloc _).alloc _).alloc _
 have y5 : Blk W0 (w.heap.size + 1 + 1 + 1 + 1 + 1) #[.slice (some ⟨w.heap.size + 1 + 1 + 1 + 1, 0, none⟩) 1 1] 24 := by rw [← hW0]; exact ((Blk.made _ _ _ (by simp)).alloc _).alloc _
 have y6 : Blk W0 (w.heap.size + 1 + 1 + 1 + 1 + 1 + 1) #[.string a] 22 := by rw [← hW0]; exact (Blk.made _ _ _ (by simp)).alloc _
 have y7 : Blk W0 (w.heap.size + 1 + 1 + 1 + 1 + 1 + 1 + 1) #[.string b] 34 := by rw [← hW0]; exact Blk.made _ _ _ (by simp)
 have b0 : Below w.heap.size w W0 := by
  rw [← hW0]
  exact ((((((((Below.refl _ _).alloc (Nat.le_refl _) _).alloc (by simp) _).alloc (by simp <;> omega) _).alloc (by simp <;> omega) _).alloc (by simp <;> omega) _).alloc (by simp <;> omega) _).alloc (by simp <;> omega) _).alloc (by simp <;> omega) _
 have z0 : W0.heap.size = w.heap.size + 1 + 1 + 1 + 1 + 1 + 1 + 1 + 1 := by rw [← hW0]; simp
 rw [hW0]
 have Y0 := hid y0; have Y1 := hid y1; have Y2 := hid y2; have Y3 := hid y3; have Y4 := hid y4; have Y5 := hid y5; have Y6 := hid y6; have Y7 := hid y7; have HB0 := hid b0; have Z0 := hid z0
 clear y0 y1 y2 y3 y4 y5 y6 y7 b0 z0 hW0
 obtain ⟨B, hB⟩ : ∃ B, w.heap.size + 1 + 1 + 1 + 1 = B := ⟨_, rfl⟩
 rw [hB] at Y4 Y5 Y6 Y7 Z0 ⊢
 have HBB := hid hB
 clear hB
 have hread : ∀ W1 W2, Below W0.heap.size W0 W1 → KpS B (B + 1 + 1) (B + 1 + 1 + 1) W1 W2 → W2.cell? ⟨B + 1 + 1, 0, none⟩ = some (.string a) ∧ W2.cell? ⟨B + 1 + 1 + 1, 0, none⟩ = some (.string b) ∧ Lay W2 := fun W1 W2 b1 b2 => by
  have hs := b1.size
  have hz := Z0.out
  obtain ⟨r1, r2, r3⟩ := b2.rest (by omega) (by omega) (by omega)
  have g1 : Blk W2 (B + 1 + 1) #[.string a] 22 := r2.trans (Y6.out.call b1)
  have g2 : Blk W2 (B + 1 + 1 + 1) #[.string b] 34 := r3.trans (Y7.out.call b1)
  refine ⟨g1.cell 0, g2.cell 0, HL.out.call ?_⟩
  have hb := HBB.out
  exact (HB0.out.trans (b1.mono (by omega))).trans (r1.mono (by omega))
 refine range_okB (by omega) (gf := 191) (lb := #[.pointer (some ⟨B + 1 + 1, 0, none⟩), .pointer (some ⟨B + 1 + 1 + 1, 0, none⟩)]) rfl (enters_of Tryz.func191 (by kernel_rfl) rfl)
  (coins_feeds (Kp := KpS B (B + 1 + 1) (B + 1 + 1 + 1)) (L.length + many) 8 (by omega) W0 _ _ a b (KpS.refl _ _ _) KpS.trans HA.out HC.out HE.out hread (fun _ _ => KpS.of_below)) KpS.trans (KpS.put (by have := Z0.out; omega) (by have := Z0.out; omega) (by have := Z0.out; omega)) (Below.refl _ _) (fun _ => rfl)
  (fun pre W => (SerI B many N D L pre W ∧ Blk W (B + 1 + 1) #[.string a] 22 ∧ Blk W (B + 1 + 1 + 1) #[.string b] 34) ∧ Below B W0 W)
  (fun c pre W => (c = .ret ∧ SerX w.heap.size B many N D L W) ∧ Below w.heap.size w W)
  (OwnFrom.and (fun s X Y row hs hg hr => ⟨SerI.own s X Y row hs.1 hg hr, hs.2.1.kept hg (fun r e => (hr r e).2), hs.2.2.kept hg (fun r e => (hr r e).2)⟩) (ownFrom_below (by have := Z0.out; omega) (by have := Z0.out; omega)))
  (fun c => OwnFrom.and (fun s X Y row hs hg hr => ⟨hs.1, hs.2.keptX hg (fun r e => (hr r e).2)⟩) (ownFrom_below (Nat.le_refl _) (by have := Z0.out; have := HBB.out; omega)))
  ⟨⟨⟨many, [], 0, _, H1.out, by simp, rfl, Nat.zero_le _, by simp [posOf_nil], Nat.zero_le _, Y5.out, owns_one Y4.out⟩, Y6.out, Y7.out⟩, Below.refl _ _⟩
  (fun pre W h => by obtain ⟨m, vs, n, v, _, _, _, _, h5, _⟩ := h.1.1; omega) ?act ?assign ?body ?done ?stop
 case assign =>
  intro l x W K hK
  gi_wp2
  exact hK
 case body =>
  rintro l pre ⟨q, val⟩ W ⟨hd, hx⟩ ⟨⟨⟨m, vs, n, v, i1, i2, i3, i4, i5, i6, hv, hr⟩, ha6, hb7⟩, hB⟩
  rw [HN.out, HD.out, HLQ.out] at hd hx
  obtain ⟨p, hp⟩ : ∃ p, posOf pre = p := ⟨_, rfl⟩
  rw [hp] at hd hx i3 i4 i5
  have hle := coinF_le (N := N) (D := D) i4
  have hval : (coinF N D L p).2.1 ≤ 1 := by rw [coinF_eq]; exact toss_val _ _ _ _ _
  simp only [Prod.mk.injEq] at hx
  obtain ⟨hq, hvv⟩ := hx
  obtain ⟨g, cap, rfl⟩ := ownsRow_succ hr
  obtain ⟨k, hk⟩ : ∃ k, vs.length = k := ⟨_, rfl⟩
  rw [hk] at hr i2 hv
  obtain ⟨o1, o2, o3, o4, o5, o6, o7⟩ := own_slot hr
  have c0 : W.cell? ⟨g, k, none⟩ = some (.int .i64 (n : Nat)) := o4 k _ (by rw [ints_append, List.getElem?_append_right (by rw [ints_length]; omega), ints_length, hk, Nat.sub_self]; rfl)
  have c1 : W.cell? ⟨B + 1, 0, none⟩ = some (.slice (some ⟨g, 0, none⟩) (k + 1) cap) := Blk.cell hv 0
  have c2 : W.frozen? ⟨B + 1, 0, none⟩ = false := Blk.free hv 0
  have c3 : W.cell? ⟨w.heap.size, 0, none⟩ = some (.int .i64 (many : Nat)) := (Y0.out.below hB (by have := HBB.out; omega)).cell 0
  have r1 := Y1.out.below hB (by have := HBB.out; omega)
  have r2 := Y2.out.below hB (by have := HBB.out; omega)
  have r3 := Y3.out.below hB (by have := HBB.out; omega)
  have c4 := r1.cell 0
  have c5 := r2.cell 0
  have c6 := r3.cell 0
  have c7 := r1.free 0
  have c8 := r2.free 0
  have c9 := r3.free 0
  have d0 := o3 k
  simp at c4 c5 c6
  have hkm : k < 1000 := by have := H2.out; omega
  have hn : n < 3000 := by have h2 := H2.out; have h3 := HBS.out; have h4 := HLL.out; omega
  have w1 : IntKind.i64.wrap (((k + 1 : Nat) : Int) - 1) = (k : Int) := by rw [IntWalk.i64_in _ ⟨by omega, by omega⟩]; omega
  have w2 : IntKind.i64.wrap ((n : Int) + 1) = (n : Int) + 1 := by rw [IntWalk.i64_in _ ⟨by omega, by omega⟩]
  have I1 := hid i1; have I2 := hid i2; have I3 := hid i3; have I4 := hid i4; have I5 := hid i5; have I6 := hid i6; have HV := hid hv; have HR := hid hr; have HBW := hid hB; have HP := hid hp; have HD1 := hid hd; have HLE := hid hle; have HVAL := hid hval; have HQ := hid hq; have HVV := hid hvv; have HKK := hid hk
  have A6 := hid ha6; have A7 := hid hb7; have N6 := hid (o7 _ _ _ (by decide) ha6); have N7 := hid (o7 _ _ _ (by decide) hb7); have N5 := hid (o7 _ _ _ (by decide) hv)
  clear ha6 hb7
  have R1 := hid r1; have R2 := hid r2; have R3 := hid r3; have HC0 := hid o1; have HC1 := hid o2; have HO7 := hid o7
  clear i1 i2 i3 i4 i5 i6 hv hr hB hp hd hle hval hq hvv hk r1 r2 r3 o1 o2 o3 o4 o7
  by_cases h1 : val = 1
  ·have q0 : ((val : Int) == 1) = true := by rw [h1]; rfl
   have HV1 := hid h1
   clear h1
   gi_wp2_with fail
   have e1 : ((n : Int) + 1) = ((n + 1 : Nat) : Int) := rfl
   have hu := coinF_one HND.out HD1.out (HVV.out.symm.trans HV1.out)
   have hser := sr_one (vs := vs) (n := n) HND.out I1.out I4.out HD1.out (HVV.out.symm.trans HV1.out)
   have hq := HQ.out; have h5 := I5.out; have h6 := I6.out; have hle := HLE.out
   refine ⟨(KeepsOthers.setCell _ _ _).from _, ⟨by simp [World.setCell], fun _ _ _ => ⟨(Below.refl _ _).setCell HC0.out _, Below.heap_setCell _ _ _ _ (fun e => N6.out e), Below.heap_setCell _ _ _ _ (fun e => N7.out e)⟩⟩, ⟨⟨m, vs, n + 1, _, I1.out, by rw [HKK.out]; exact I2.out, ?_, ?_, ?_, ?_, Blk.other HV.out (fun e => N5.out e.symm) _, ?_⟩, Blk.other A6.out (fun e => N6.out e.symm) _, Blk.other A7.out (fun e => N7.out e.symm) _⟩, HBW.out.setCell HC0.out _⟩
   ·rw [posOf_snoc, I3.out, hser, hq]
   ·rw [posOf_snoc]; show q ≤ _; omega
   ·rw [posOf_snoc, List.length_append, List.length_singleton]; show pre.length + 1 + (L.length - q + m) ≤ _; omega
   ·rw [List.length_append, List.length_singleton]; omega
   ·rw [HKK.out]
    have h7 := own_set HR.out k (.int .i64 ((n + 1 : Nat) : Int))
    rw [ints_set, List.set_append_right _ _ (Nat.le_of_eq HKK.out), HKK.out, Nat.sub_self] at h7
    exact h7
  ·have q0 : ((val : Int) == 1) = false := by rw [beq_eq_false_iff_ne]; omega
   have HV0 := hid h1
   have hnv := hid (show ¬ (coinF N D L p).2.1 = 1 from by rw [← HVV.out]; exact h1)
   clear h1
   by_cases h2 : k + 1 = many
   ·have q1 : (((k : Int) + 1) == (many : Int)) = true := by rw [beq_iff_eq]; omega
    have HM := hid h2
    clear h2
    gi_wp2_with fail
    have hm1 : m = 1 := by have := I2.out; have := HM.out; omega
    have h8 := HBB.out; have h9 := HC0.out
    have hstop := sr_stop (vs := vs) (n := n) HD1.out hnv.out
    refine ⟨(((KeepsOthers.setCell _ _ _).trans (KeepsOthers.setCell _ _ _)).trans (KeepsOthers.setCell _ _ _)).from _, ⟨rfl, vs ++ [n], q, .slice (some ⟨g, 0, none⟩) (k + 1) cap, ?_, ?_, ?_, ?_, ?_, ?_⟩, ?_⟩
    ·rw [I3.out, hm1, hstop, HQ.out]
    ·rw [List.length_append, HKK.out]; exact HM.out
    ·exact (((R1.out.set 0 _).other (by simp) _).other (by simp <;> omega) _)
    ·exact ((R2.out.other (by simp) _).set 0 _).other (by simp) _
    ·exact ((R3.out.other (by simp <;> omega) _).other (by simp) _).set 0 _
    ·rw [List.length_append, HKK.out]
     exact ((ownsRow_setCell_below (ownsRow_setCell_below (ownsRow_setCell_below HR.out (by simp <;> omega) _) (by simp <;> omega) _) (by simp <;> omega) _))
    ·exact (((HB0.out.trans (HBW.out.mono (by omega))).setCell (by simp <;> omega) _).setCell (by simp <;> omega) _).setCell (by simp <;> omega) _
   ·have q1 : (((k : Int) + 1) == (many : Int)) = false := by rw [beq_eq_false_iff_ne]; omega
    have HM := hid h2
    clear h2
    gi_wp2_with (gi_at_builtin; refine wpListIn_append_own _ rfl _ _ 24 rfl B 3 i0 (.int .i64 0) 1 8 Tryz.underlying24 hi hz0 hz1 hz2 rfl (by decide) _ (k + 1) _ rfl (HR.out.alloc _) ⟨W.heap.size, 0, none⟩ 1 1 [.int .i64 0] rfl rfl (cell_one_new W (.int .i64 0) 3) (by simp [Value.oneCell']) (by unfold maxLen; omega) (by omega) (by have := HC0.out; have := HC1.out; simp; omega) ?_; intro v' w3 hown3 hgrow3 _
                 obtain ⟨g2, cap2, rfl⟩ := ownsRow_succ hown3
                 obtain ⟨e1, e2, e3, e4, e5⟩ := Boxed.appended (B := B + 1) HV.out (by decide) HR.out (by have := HC0.out; have := HC1.out; omega) (Nat.le_succ B) hown3 hgrow3
                 have k0 := e1.cell
                 have k1 := e1.frozen
                 have E1 := hid e1; have E2 := hid e2; have E3 := hid e3; have E4 := hid e4; have E5 := hid e5; have HG3 := hid hgrow3
                 clear e1 e2 e3 e4 e5 hown3 hgrow3)
    have hm2 : 2 ≤ m := by have := I1.out; have := I2.out; have := HM.out; omega
    have hser := sr_more (vs := vs) (n := n) HND.out hm2 I4.out HD1.out hnv.out
    have hq := HQ.out; have h5 := I5.out; have h6 := I6.out; have hle := HLE.out
    have hg : (W.alloc (.cells #[.int .i64 0] 3)).grownBy w3 (some g) := HG3.out
    have A6' := (((A6.out.alloc (.cells #[.int .i64 0] 3)).grown hg (fun e => N6.out (by cases e; rfl))).other (a := ⟨B + 1, 0, none⟩) (by simp) (.slice (some ⟨g2, 0, none⟩) (k + 1 + 1) cap2))
    have A7' := (((A7.out.alloc (.cells #[.int .i64 0] 3)).grown hg (fun e => N7.out (by cases e; rfl))).other (a := ⟨B + 1, 0, none⟩) (by simp <;> omega) (.slice (some ⟨g2, 0, none⟩) (k + 1 + 1) cap2))
    refine ⟨E4.out.from _, ⟨E5.out.size, fun _ _ _ => ⟨E5.out, A6'.trans (Eq.symm A6.out), A7'.trans (Eq.symm A7.out)⟩⟩, ⟨⟨m - 1, vs ++ [n], 0, _, by omega, by rw [List.length_append, HKK.out]; have := I2.out; simp <;> omega, ?_, ?_, ?_, Nat.zero_le _, E2.out, ?_⟩, A6', A7'⟩, HBW.out.trans E5.out⟩
    ·rw [posOf_snoc, I3.out, hser, hq]
    ·rw [posOf_snoc]; show q ≤ _; omega
    ·rw [posOf_snoc, List.length_append, List.length_singleton]; show pre.length + 1 + (L.length - q + (m - 1)) ≤ _; omega
    ·have h7 := E3.out
     rw [List.length_append, List.length_singleton, HKK.out, ints_append]
     exact h7
 case done =>
  rintro D' xs W hD hS ⟨⟨⟨m, vs, n, v, i1, i2, i3, i4, i5, i6, hv, hr⟩, ha6, hb7⟩, hB⟩ hK
  rw [HN.out, HD.out, HLQ.out] at hS
  have hsn := hid (i3.trans (sr_late i1 hS))
  have r1 := Y1.out.below hB (by have := HBB.out; omega)
  have r2 := Y2.out.below hB (by have := HBB.out; omega)
  have r3 := Y3.out.below hB (by have := HBB.out; omega)
  have c4 := r1.cell 0
  have c5 := r2.cell 0
  have c6 := r3.cell 0
  have c7 := r1.free 0
  have c8 := r2.free 0
  have c9 := r3.free 0
  simp at c4 c5 c6
  have R1 := hid r1; have R2 := hid r2; have R3 := hid r3; have HBW := hid hB; have HK := hid hK; have HDD := hid hD
  clear i1 i2 i3 i4 i5 i6 hv hr ha6 hb7 hB hK hS r1 r2 r3 hD
  gi_wp2_with fail
  have q1 := ((R1.out.set 0 (.slice none 0 0)).other (a := ⟨w.heap.size + 1 + 1, 0, none⟩) (by simp) (.int .i64 0)).other (a := ⟨w.heap.size + 1 + 1 + 1, 0, none⟩) (by simp <;> omega) (.bool false)
  have q2 := ((R2.out.other (a := ⟨w.heap.size + 1, 0, none⟩) (by simp) (.slice none 0 0)).set 0 (.int .i64 0)).other (a := ⟨w.heap.size + 1 + 1 + 1, 0, none⟩) (by simp) (.bool false)
  have q3 := ((R3.out.other (a := ⟨w.heap.size + 1, 0, none⟩) (by simp <;> omega) (.slice none 0 0)).other (a := ⟨w.heap.size + 1 + 1, 0, none⟩) (by simp) (.int .i64 0)).set 0 (.bool false)
  have hk3 := ((((KeepsOthers.setCell W ⟨w.heap.size + 1, 0, none⟩ (.slice none 0 0)).trans (KeepsOthers.setCell _ ⟨w.heap.size + 1 + 1, 0, none⟩ (.int .i64 0))).trans (KeepsOthers.setCell _ ⟨w.heap.size + 1 + 1 + 1, 0, none⟩ (.bool false)))).same D' _ HK.out rfl
  have p1 := (q1.put hk3 (.deferred none)).cell 0
  have p2 := (q2.put hk3 (.deferred none)).cell 0
  have p3 := (q3.put hk3 (.deferred none)).cell 0
  simp at p1 p2 p3
  have h8 := HBB.out; have h9 := HDD.out; have hz := Z0.out
  refine marks_end hk3 (v := .tuple #[.slice none 0 0, .int .i64 0, .bool false]) (by simp [results, Tryz.results91, go_sem, p1, p2, p3]) ⟨by rw [hsn.out]; first | done | rfl, ?_⟩
  exact ((((HB0.out.trans (HBW.out.mono (by omega))).setCell (by simp <;> omega) _).setCell (by simp <;> omega) _).setCell (by simp <;> omega) _).trans (belowK_b (w := w) (Nat.le_refl _) _ D' _ _ (by omega) hk3 rfl rfl)
 case stop =>
  rintro D' c pre W hD - ⟨⟨rfl, vs, x, v, h1, h2, h3, h4, h5, hr⟩, hB⟩ hK
  have p1 := (h3.put hK (.deferred none)).cell 0
  have p2 := (h4.put hK (.deferred none)).cell 0
  have p3 := (h5.put hK (.deferred none)).cell 0
  have hrow : Row (W.putObj D' (.deferred none)) v (ints .i64 vs) := Row.put (Row.of_owns hr) hK _
  simp at p1 p2 p3
  have H1' := hid h1; have HROW := hid hrow; have HB' := hid hB; have HK := hid hK; have HDD := hid hD
  obtain ⟨a3, c3, rfl⟩ := owns_ex hr
  clear h1 h3 h4 h5 hr hrow hB hD
  gi_wp2_with fail
  have h8 := HBB.out; have h9 := HDD.out; have hz := Z0.out
  refine marks_end hK (v := .tuple #[.slice a3 vs.length c3, .int .i64 (x : Nat), .bool true]) (by simp [results, Tryz.results91, go_sem, p1, p2, p3]) ⟨?_, ?_⟩
  ·rw [H1'.out]; exact ⟨_, rfl, HROW.out⟩
  ·exact HB'.out.trans (belowK_b (w := w) (Nat.le_refl _) _ D' _ _ (by omega) hK rfl rfl)
theorem gPE_ok {p : ByteArray} (h : gPE p = 0) : cPE p = 0 ∧ bN (cW p) < bN (qD p) := by
 unfold gPE at h
 split at h
 ·rename_i he
  exact absurd h he
 ·rename_i he
  have he' : qE p = 0 := Decidable.not_not.1 he
  split at h
  ·cases h
  ·rename_i h2
   split at h
   ·cases h
   ·rename_i h3
    obtain ⟨a, b, c, d, e1, e2⟩ := parts_ok he' (fun h => h2 (.inl h)) h3
    have h4 : ¬ 0 ≤ cmpN (cW p).data.toList (qD p).data.toList := fun h => h2 (.inr h)
    refine ⟨?_, ?_⟩
    ·rw [cPE, if_neg he, if_neg (fun h => ?_), if_neg h3]
     rcases h with h | h
     ·exact h2 (.inl h)
     ·exact h4 (by omega)
    ·rw [cmpN, if_pos ⟨e1, e2⟩, ordN] at h4
     show dv _ < dv _
     split at h4
     ·assumption
     ·split at h4 <;> simp at h4
theorem gE_ok {a b : ByteArray} (h : gE a b = 0) : gPE a = 0 ∧ chkE b = 0 := by
 unfold gE at h
 split at h
 ·rename_i h1; exact absurd h h1
 ·rename_i h1; exact ⟨Decidable.not_not.1 h1, h⟩
theorem g_draw_none (w : World) (a b : ByteArray) (many : Nat) (h1 : 1 ≤ many) (h2 : many ≤ 1000) (ha : a.size ≤ 100000) (hb : b.size ≤ 100000) (he : gE a b = 0) (hL : Lay w)
 (hr : sr (bN (cW a)) (bN (qD a)) b.data.toList many 0 [] 0 = none) :
 Calls Tryz.prog 50 #[.string a, .string b, .int .i64 (many : Nat)] w fun e w' => e = .returned (.tuple #[.agg #[.bool false, .int .i64 0, .int .i64 (b.size : Nat)], .int .i64 0]) ∧ Below w.heap.size w w' := by
 have HC := fun V hV => hid (g_check V a b ha hb hV)
 have HS := fun V hV => hid (g_series V a b many h1 h2 ha (gE_ok he).2 (gPE_ok (gE_ok he).1).1 (gPE_ok (gE_ok he).1).2 hV)
 rw [he] at HC
 rw [hr] at HS
 simp only [SerOut] at HS
 have HL := hid hL
 have b0 := hid ((Below.refl w.heap.size w).alloc (Nat.le_refl _) (.cells #[.bool false, .int .i64 0, .int .i64 0] 53))
 have x0 := hid (Blk.new w #[.bool false, .int .i64 0, .int .i64 0] 53)
 clear h1 h2 ha hb he hL hr
 go_enter Tryz.func50, Tryz.ntmps50
 go_wp2_with fail
 refine (HC _ (HL.out.call b0.out)).out.mono ?_; rintro e w1 ⟨rfl, hb1⟩
 have b1 := hid (bnext b0.out hb1); have x1 := hid (x0.out.call hb1)
 clear hb1
 go_wp2_with fail
 refine (HS _ (HL.out.call b1.out)).out.mono ?_; rintro e w2 ⟨rfl, hb2⟩
 have b2 := hid (bnext b1.out hb2); have x2 := hid (x1.out.call hb2)
 have r0 : w2.cell? ⟨w.heap.size, 0, none⟩ = some (.bool false) := x2.out.cell 0
 have r1 : w2.cell? ⟨w.heap.size, 1, none⟩ = some (.int .i64 0) := x2.out.cell 1
 have r2 : w2.cell? ⟨w.heap.size, 2, none⟩ = some (.int .i64 0) := x2.out.cell 2
 have f0 := x2.out.free 0
 have f1 := x2.out.free 1
 have f2 := x2.out.free 2
 clear hb2
 go_wp2_with fail
 have s3 := ((x2.out.set 0 (.bool false)).set 1 (.int .i64 0)).set 2 (.int .i64 (b.size : Nat))
 have k0 := s3.cell 0
 have k1 := s3.cell 1
 have k2 := s3.cell 2
 simp at k0 k1 k2
 refine bodyPost_ret (v := .tuple #[.agg #[.bool false, .int .i64 0, .int .i64 (b.size : Nat)], .int .i64 0]) (by simp [results, Tryz.results50, go_sem, k0, k1, k2]) rfl ⟨rfl, ?_⟩
 exact ((b2.out.setCell (Nat.le_refl _) _).setCell (Nat.le_refl _) _).setCell (Nat.le_refl _) _
theorem g_draw_bad (w : World) (a b : ByteArray) (many : Nat) (ha : a.size ≤ 100000) (hb : b.size ≤ 100000) (he : gE a b ≠ 0) (hL : Lay w) :
 Calls Tryz.prog 50 #[.string a, .string b, .int .i64 (many : Nat)] w fun e w' => e = .returned (.tuple #[.agg #[.bool false, .int .i64 0, .int .i64 0], .int .i64 (gE a b)]) ∧ Below w.heap.size w w' := by
 have HC := fun V hV => hid (g_check V a b ha hb hV)
 obtain ⟨x, hx⟩ : ∃ x, gE a b = x := ⟨_, rfl⟩
 rw [hx] at HC he ⊢
 have q0 : (x == 0) = false := by simpa using he
 have q1 : (x != 0) = true := by simpa using he
 have HL := hid hL
 have b0 := hid ((Below.refl w.heap.size w).alloc (Nat.le_refl _) (.cells #[.bool false, .int .i64 0, .int .i64 0] 53))
 have x0 := hid (Blk.new w #[.bool false, .int .i64 0, .int .i64 0] 53)
 clear ha hb he hL hx
 go_enter Tryz.func50, Tryz.ntmps50
 go_wp2_with fail
 refine (HC _ (HL.out.call b0.out)).out.mono ?_; rintro e w2 ⟨rfl, hb2⟩
 have b2 := hid (bnext b0.out hb2); have x2 := hid (x0.out.call hb2)
 have r0 : w2.cell? ⟨w.heap.size, 0, none⟩ = some (.bool false) := x2.out.cell 0
 have r1 : w2.cell? ⟨w.heap.size, 1, none⟩ = some (.int .i64 0) := x2.out.cell 1
 have r2 : w2.cell? ⟨w.heap.size, 2, none⟩ = some (.int .i64 0) := x2.out.cell 2
 have f0 := x2.out.free 0
 have f1 := x2.out.free 1
 have f2 := x2.out.free 2
 clear hb2
 go_wp2_with fail
 have s3 := ((x2.out.set 0 (.bool false)).set 1 (.int .i64 0)).set 2 (.int .i64 0)
 have k0 := s3.cell 0
 have k1 := s3.cell 1
 have k2 := s3.cell 2
 simp at k0 k1 k2
 refine bodyPost_ret (v := .tuple #[.agg #[.bool false, .int .i64 0, .int .i64 0], .int .i64 x]) (by simp [results, Tryz.results50, go_sem, k0, k1, k2]) rfl ⟨rfl, ?_⟩
 exact ((b2.out.setCell (Nat.le_refl _) _).setCell (Nat.le_refl _) _).setCell (Nat.le_refl _) _
theorem g_draw_one (w : World) (a b : ByteArray) (x p : Nat) (hx : x ≤ 100000) (hp : p ≤ 100000) (ha : a.size ≤ 100000) (hb : b.size ≤ 100000) (he : gE a b = 0) (hL : Lay w)
 (hr : sr (bN (cW a)) (bN (qD a)) b.data.toList 1 0 [] 0 = some ([x], p)) :
 Calls Tryz.prog 50 #[.string a, .string b, .int .i64 1] w fun e w' => e = .returned (.tuple #[.agg #[.bool true, .int .i64 (x : Nat), .int .i64 (p : Nat)], .int .i64 0]) ∧ Below w.heap.size w w' := by
 have HC := fun V hV => hid (g_check V a b ha hb hV)
 have HS := fun V hV => hid (g_series V a b 1 (by omega) (by omega) ha (gE_ok he).2 (gPE_ok (gE_ok he).1).1 (gPE_ok (gE_ok he).1).2 hV)
 rw [he] at HC
 rw [hr] at HS
 simp only [SerOut] at HS
 have HL := hid hL
 have b0 := hid ((Below.refl w.heap.size w).alloc (Nat.le_refl _) (.cells #[.bool false, .int .i64 0, .int .i64 0] 53))
 have x0 := hid (Blk.new w #[.bool false, .int .i64 0, .int .i64 0] 53)
 clear ha hb he hL hr
 go_enter Tryz.func50, Tryz.ntmps50
 go_wp2_with fail
 refine (HC _ (HL.out.call b0.out)).out.mono ?_; rintro e w1 ⟨rfl, hb1⟩
 have b1 := hid (bnext b0.out hb1); have x1 := hid (x0.out.call hb1)
 clear hb1
 go_wp2_with fail
 refine (HS _ (HL.out.call b1.out)).out.mono ?_; rintro e w2 ⟨⟨v, rfl, hv⟩, hb2⟩
 have b2 := hid (bnext b1.out hb2); have x2 := hid (x1.out.call hb2)
 obtain ⟨a3, c3, rfl, h3, h4, h5⟩ := hv.openI
 obtain ⟨g, o, rfl, -, hc⟩ := h5 0 x rfl
 rw [Nat.add_zero] at hc
 have r0 : w2.cell? ⟨w.heap.size, 0, none⟩ = some (.bool false) := x2.out.cell 0
 have r1 : w2.cell? ⟨w.heap.size, 1, none⟩ = some (.int .i64 0) := x2.out.cell 1
 have r2 : w2.cell? ⟨w.heap.size, 2, none⟩ = some (.int .i64 0) := x2.out.cell 2
 have f0 := x2.out.free 0
 have f1 := x2.out.free 1
 have f2 := x2.out.free 2
 clear hb2 hv h5
 simp only [List.length_singleton] at h3 ⊢
 go_wp2_with fail
 all_goals
  go_loop [12, 41] (fun v i => v = .int .i64 (x : Nat) ∧ i = .int .i64 0) (fun _ _ => 0)
  case atStart => exact ⟨rfl, rfl⟩
  case round =>
   obtain ⟨rfl, rfl⟩ := hrel
   go_wp2_with fail
   have s3 := ((x2.out.set 0 (.bool true)).set 1 (.int .i64 (x : Nat))).set 2 (.int .i64 (p : Nat))
   have k0 := s3.cell 0
   have k1 := s3.cell 1
   have k2 := s3.cell 2
   simp at k0 k1 k2
   refine bodyPost_ret (v := .tuple #[.agg #[.bool true, .int .i64 (x : Nat), .int .i64 (p : Nat)], .int .i64 0]) (by simp [results, Tryz.results50, go_sem, k0, k1, k2]) rfl ⟨rfl, ?_⟩
   exact ((b2.out.setCell (Nat.le_refl _) _).setCell (Nat.le_refl _) _).setCell (Nat.le_refl _) _
theorem g_draw_two (w : World) (a b : ByteArray) (x y p : Nat) (hx : x ≤ 100000) (hy : y ≤ 100000) (hp : p ≤ 100000) (ha : a.size ≤ 100000) (hb : b.size ≤ 100000) (he : gE a b = 0) (hL : Lay w)
 (hr : sr (bN (cW a)) (bN (qD a)) b.data.toList 2 0 [] 0 = some ([x, y], p)) :
 Calls Tryz.prog 50 #[.string a, .string b, .int .i64 2] w fun e w' => e = .returned (.tuple #[.agg #[.bool true, .int .i64 ((x : Int) - (y : Int)), .int .i64 (p : Nat)], .int .i64 0]) ∧ Below w.heap.size w w' := by
 have HC := fun V hV => hid (g_check V a b ha hb hV)
 have HS := fun V hV => hid (g_series V a b 2 (by omega) (by omega) ha (gE_ok he).2 (gPE_ok (gE_ok he).1).1 (gPE_ok (gE_ok he).1).2 hV)
 rw [he] at HC
 rw [hr] at HS
 simp only [SerOut] at HS
 have HL := hid hL
 have b0 := hid ((Below.refl w.heap.size w).alloc (Nat.le_refl _) (.cells #[.bool false, .int .i64 0, .int .i64 0] 53))
 have x0 := hid (Blk.new w #[.bool false, .int .i64 0, .int .i64 0] 53)
 clear ha hb he hL hr
 go_enter Tryz.func50, Tryz.ntmps50
 go_wp2_with fail
 refine (HC _ (HL.out.call b0.out)).out.mono ?_; rintro e w1 ⟨rfl, hb1⟩
 have b1 := hid (bnext b0.out hb1); have x1 := hid (x0.out.call hb1)
 clear hb1
 go_wp2_with fail
 refine (HS _ (HL.out.call b1.out)).out.mono ?_; rintro e w2 ⟨⟨v, rfl, hv⟩, hb2⟩
 have b2 := hid (bnext b1.out hb2); have x2 := hid (x1.out.call hb2)
 obtain ⟨a3, c3, rfl, h3, h4, h5⟩ := hv.openI
 obtain ⟨g, o, rfl, -, hc⟩ := h5 0 x rfl
 obtain ⟨g', o', hgo, -, hd⟩ := h5 1 y rfl
 simp at hgo
 obtain ⟨rfl, rfl⟩ := hgo
 rw [Nat.add_zero] at hc
 have r0 : w2.cell? ⟨w.heap.size, 0, none⟩ = some (.bool false) := x2.out.cell 0
 have r1 : w2.cell? ⟨w.heap.size, 1, none⟩ = some (.int .i64 0) := x2.out.cell 1
 have r2 : w2.cell? ⟨w.heap.size, 2, none⟩ = some (.int .i64 0) := x2.out.cell 2
 have f0 := x2.out.free 0
 have f1 := x2.out.free 1
 have f2 := x2.out.free 2
 clear hb2 hv h5
 simp only [List.length_cons, List.length_nil, Nat.zero_add, Nat.reduceAdd] at h3 ⊢
 have w1 : IntKind.i64.wrap ((x : Int) - (y : Int)) = (x : Int) - (y : Int) := by rw [IntWalk.i64_in _ ⟨by omega, by omega⟩]
 go_wp2_with fail
 all_goals
  go_loop [12, 41] (fun v i => (v = .int .i64 (x : Nat) ∧ i = .int .i64 0) ∨ (v = .int .i64 ((x : Int) - (y : Int)) ∧ i = .int .i64 1)) (fun _ i => 1 - (intOf i).toNat)
  case atStart => exact .inl ⟨rfl, rfl⟩
  case round =>
   rcases hrel with ⟨rfl, rfl⟩ | ⟨rfl, rfl⟩
   ·go_wp2_with fail
    go_round
    case rel => exact .inr ⟨rfl, rfl⟩
    case measure => simp [intOf]
   ·go_wp2_with fail
    have s3 := ((x2.out.set 0 (.bool true)).set 1 (.int .i64 ((x : Int) - (y : Int)))).set 2 (.int .i64 (p : Nat))
    have k0 := s3.cell 0
    have k1 := s3.cell 1
    have k2 := s3.cell 2
    simp at k0 k1 k2
    refine bodyPost_ret (v := .tuple #[.agg #[.bool true, .int .i64 ((x : Int) - (y : Int)), .int .i64 (p : Nat)], .int .i64 0]) (by simp [results, Tryz.results50, go_sem, k0, k1, k2]) rfl ⟨rfl, ?_⟩
    exact ((b2.out.setCell (Nat.le_refl _) _).setCell (Nat.le_refl _) _).setCell (Nat.le_refl _) _
def d3 (t : Bool × Int × Int) : Value := .agg #[.bool t.1, .int .i64 t.2.1, .int .i64 t.2.2]
def oneT (N D : Nat) (l : List UInt8) : Bool × Int × Int := match s1 N D l 0 0 with
 | none => (false, 0, (l.length : Nat))
 | some (x, p) => (true, (x : Nat), (p : Nat))
def twoT (N D : Nat) (l : List UInt8) : Bool × Int × Int := match s1 N D l 0 0 with
 | none => (false, 0, (l.length : Nat))
 | some (x, p) => match s1 N D l p 0 with
  | none => (false, 0, (l.length : Nat))
  | some (y, q) => (true, (x : Int) - (y : Int), (q : Nat))
def oT (a b : ByteArray) : Bool × Int × Int := if gE a b = 0 then oneT (bN (cW a)) (bN (qD a)) b.data.toList else (false, 0, 0)
def wT (a b : ByteArray) : Bool × Int × Int := if gE a b = 0 then twoT (bN (cW a)) (bN (qD a)) b.data.toList else (false, 0, 0)
theorem chk_size {b : ByteArray} (h : chkE b = 0) : b.size ≤ 256 := by
 have h5 := (bit_drop h 0).2.1
 have h6 := list_size (b.extract 0 b.size)
 have h7 := (bit_drop h 0).2.2
 rw [h5, List.drop_zero, list_size] at h6
 omega
theorem g_draw1 (w : World) (a b : ByteArray) (ha : a.size ≤ 100000) (hb : b.size ≤ 100000) (hL : Lay w) :
 Calls Tryz.prog 50 #[.string a, .string b, .int .i64 1] w fun e w' => e = .returned (.tuple #[d3 (oT a b), .int .i64 (gE a b)]) ∧ Below w.heap.size w w' := by
 by_cases he : gE a b = 0
 ·have hs := chk_size (gE_ok he).2
  have hND := (gPE_ok (gE_ok he).1).2
  have hl : b.data.toList.length = b.size := list_size b
  have h1 := sr_one_eq hND (l := b.data.toList) b.data.toList.length 0 [] 0 (Nat.zero_le _) (by omega)
  rw [oT, if_pos he, oneT, he]
  cases hS : s1 (bN (cW a)) (bN (qD a)) b.data.toList 0 0 with
  | none =>
   rw [hS] at h1
   refine (g_draw_none w a b 1 (by omega) (by omega) ha hb he hL h1).mono fun e w' h => ?_
   rw [h.1]
   exact ⟨by rw [hl]; rfl, h.2⟩
  | some y =>
   obtain ⟨x, p⟩ := y
   rw [hS] at h1
   have h2 := s1_le hND b.data.toList.length 0 0 x p (Nat.zero_le _) (by omega) hS
   exact g_draw_one w a b x p (by omega) (by omega) ha hb he hL h1
 ·rw [oT, if_neg he]
  exact g_draw_bad w a b 1 ha hb he hL
theorem g_draw2 (w : World) (a b : ByteArray) (ha : a.size ≤ 100000) (hb : b.size ≤ 100000) (hL : Lay w) :
 Calls Tryz.prog 50 #[.string a, .string b, .int .i64 2] w fun e w' => e = .returned (.tuple #[d3 (wT a b), .int .i64 (gE a b)]) ∧ Below w.heap.size w w' := by
 by_cases he : gE a b = 0
 ·have hs := chk_size (gE_ok he).2
  have hND := (gPE_ok (gE_ok he).1).2
  have hl : b.data.toList.length = b.size := list_size b
  have h1 := sr_two hND (l := b.data.toList) b.data.toList.length 0 [] 0 (Nat.zero_le _) (by omega)
  rw [wT, if_pos he, twoT, he]
  cases hS : s1 (bN (cW a)) (bN (qD a)) b.data.toList 0 0 with
  | none =>
   rw [hS] at h1
   refine (g_draw_none w a b 2 (by omega) (by omega) ha hb he hL h1).mono fun e w' h => ?_
   rw [h.1]
   exact ⟨by rw [hl]; rfl, h.2⟩
  | some y =>
   obtain ⟨x, p⟩ := y
   rw [hS] at h1
   have h2 := s1_le hND b.data.toList.length 0 0 x p (Nat.zero_le _) (by omega) hS
   have h3 := sr_one_eq hND (l := b.data.toList) b.data.toList.length p ([] ++ [x]) 0 h2.2.1 (by omega)
   dsimp only at h1 ⊢
   rw [h3] at h1
   cases hT : s1 (bN (cW a)) (bN (qD a)) b.data.toList p 0 with
   | none =>
    rw [hT] at h1
    refine (g_draw_none w a b 2 (by omega) (by omega) ha hb he hL h1).mono fun e w' h => ?_
    rw [h.1]
    exact ⟨by rw [hl]; rfl, h.2⟩
   | some z =>
    obtain ⟨y, q⟩ := z
    rw [hT] at h1
    have h4 := s1_le hND b.data.toList.length p 0 y q h2.2.1 (by omega) hT
    exact g_draw_two w a b x y q (by omega) (by omega) (by omega) ha hb he hL h1
 ·rw [wT, if_neg he]
  exact g_draw_bad w a b 2 ha hb he hL
theorem g_One (w : World) (a b : ByteArray) (ha : a.size ≤ 100000) (hb : b.size ≤ 100000) (hL : Lay w) :
 Calls Tryz.prog 69 #[.string a, .string b] w fun e w' => e = .returned (.tuple #[d3 (oT a b), .int .i64 (gE a b)]) ∧ Below w.heap.size w w' := by
 have HC := fun V hV => hid (g_draw1 V a b ha hb hV)
 obtain ⟨t, ht⟩ : ∃ t, oT a b = t := ⟨_, rfl⟩
 obtain ⟨x, hx⟩ : ∃ x, gE a b = x := ⟨_, rfl⟩
 rw [ht, hx] at HC
 rw [ht, hx]
 obtain ⟨d, v, u⟩ := t
 simp only [d3] at HC
 have HL := hid hL
 have b0 := hid ((Below.refl w.heap.size w).alloc (Nat.le_refl _) (.cells #[.bool false, .int .i64 0, .int .i64 0] 53))
 have x0 := hid (Blk.new w #[.bool false, .int .i64 0, .int .i64 0] 53)
 clear ha hb hL hx ht
 go_enter Tryz.func69, Tryz.ntmps69
 go_wp2_with fail
 refine (HC _ (HL.out.call b0.out)).out.mono ?_; rintro e w2 ⟨rfl, hb2⟩
 have b2 := hid (bnext b0.out hb2); have x2 := hid (x0.out.call hb2)
 have r0 : w2.cell? ⟨w.heap.size, 0, none⟩ = some (.bool false) := x2.out.cell 0
 have r1 : w2.cell? ⟨w.heap.size, 1, none⟩ = some (.int .i64 0) := x2.out.cell 1
 have r2 : w2.cell? ⟨w.heap.size, 2, none⟩ = some (.int .i64 0) := x2.out.cell 2
 have f0 := x2.out.free 0
 have f1 := x2.out.free 1
 have f2 := x2.out.free 2
 clear hb2
 go_wp2_with fail
 have s3 := ((x2.out.set 0 (.bool d)).set 1 (.int .i64 v)).set 2 (.int .i64 u)
 have k0 := s3.cell 0
 have k1 := s3.cell 1
 have k2 := s3.cell 2
 simp at k0 k1 k2
 refine bodyPost_ret (v := .tuple #[.agg #[.bool d, .int .i64 v, .int .i64 u], .int .i64 x]) (by simp [results, Tryz.results69, go_sem, k0, k1, k2]) rfl ⟨rfl, ?_⟩
 exact ((b2.out.setCell (Nat.le_refl _) _).setCell (Nat.le_refl _) _).setCell (Nat.le_refl _) _
theorem g_Two (w : World) (a b : ByteArray) (ha : a.size ≤ 100000) (hb : b.size ≤ 100000) (hL : Lay w) :
 Calls Tryz.prog 20 #[.string a, .string b] w fun e w' => e = .returned (.tuple #[d3 (wT a b), .int .i64 (gE a b)]) ∧ Below w.heap.size w w' := by
 have HC := fun V hV => hid (g_draw2 V a b ha hb hV)
 obtain ⟨t, ht⟩ : ∃ t, wT a b = t := ⟨_, rfl⟩
 obtain ⟨x, hx⟩ : ∃ x, gE a b = x := ⟨_, rfl⟩
 rw [ht, hx] at HC
 rw [ht, hx]
 obtain ⟨d, v, u⟩ := t
 simp only [d3] at HC
 have HL := hid hL
 have b0 := hid ((Below.refl w.heap.size w).alloc (Nat.le_refl _) (.cells #[.bool false, .int .i64 0, .int .i64 0] 53))
 have x0 := hid (Blk.new w #[.bool false, .int .i64 0, .int .i64 0] 53)
 clear ha hb hL hx ht
 go_enter Tryz.func20, Tryz.ntmps20
 go_wp2_with fail
 refine (HC _ (HL.out.call b0.out)).out.mono ?_; rintro e w2 ⟨rfl, hb2⟩
 have b2 := hid (bnext b0.out hb2); have x2 := hid (x0.out.call hb2)
 have r0 : w2.cell? ⟨w.heap.size, 0, none⟩ = some (.bool false) := x2.out.cell 0
 have r1 : w2.cell? ⟨w.heap.size, 1, none⟩ = some (.int .i64 0) := x2.out.cell 1
 have r2 : w2.cell? ⟨w.heap.size, 2, none⟩ = some (.int .i64 0) := x2.out.cell 2
 have f0 := x2.out.free 0
 have f1 := x2.out.free 1
 have f2 := x2.out.free 2
 clear hb2
 go_wp2_with fail
 have s3 := ((x2.out.set 0 (.bool d)).set 1 (.int .i64 v)).set 2 (.int .i64 u)
 have k0 := s3.cell 0
 have k1 := s3.cell 1
 have k2 := s3.cell 2
 simp at k0 k1 k2
 refine bodyPost_ret (v := .tuple #[.agg #[.bool d, .int .i64 v, .int .i64 u], .int .i64 x]) (by simp [results, Tryz.results20, go_sem, k0, k1, k2]) rfl ⟨rfl, ?_⟩
 exact ((b2.out.setCell (Nat.le_refl _) _).setCell (Nat.le_refl _) _).setCell (Nat.le_refl _) _
end Go.Proofs.YtgphopkifomffaaGreatDoor
namespace Go.Proofs.YtgphopkifomffaaGreatDoor
open Go.RowKit
open Go.Lib (decDigits nDigits)
theorem make_bytes (n : Nat) (hn : n ≤ 100000000) (W : World) : (Instr.makeSlice 156 (.int .i64 (n : Int)) (.int .i64 (n : Int))).run Tryz.prog W = .ok (.slice (some ⟨W.heap.size, 0, none⟩) n n) (W.alloc (.cells (madeCells #[.int .u8 0] n) 5)) :=
 run_make_row' (P := Tryz.prog) 156 5 (.int .u8 0) 1 Tryz.underlying156 (by kernel_rfl) rfl .i64 .i64 n (by omega) (by omega) W
theorem r1_Write_zero (w : World) (v : Value) (h : IsN .i64 w v 0) : Calls Tryz.prog 76 #[v] w fun e w' => e = .returned (numV 0) ∧ Below w.heap.size w w' := by
 obtain ⟨a, c, rfl, _⟩ := h.openI
 have hl : (limbs 0).length = 0 := by rw [limbs_zero]; rfl
 rw [hl]
 have e : numV 0 = .string ⟨#[48]⟩ := by rw [numV, dec_zero]
 have E := hid e
 clear h hl e
 go_enter Tryz.func76, Tryz.ntmps76
 go_wp2_with fail
 go_ret
 exact ⟨by rw [E.out]; rfl, Below.refl _ _⟩
theorem r1_Write_pos (w : World) (v : Value) (n : Nat) (h : IsN .i64 w v n) (h0 : 0 < n) (hl : (limbs n).length ≤ 1000000) : Calls Tryz.prog 76 #[v] w fun e w' => e = .returned (numV n) ∧ Below w.heap.size w w' := by
 obtain ⟨a, c, rfl, h1, h2, h3⟩ := h.openI
 have H3 := hid h3; clear h3 h
 obtain ⟨L, hL⟩ : ∃ L, (limbs n).length = L := ⟨_, rfl⟩
 have hLp : 0 < L := by rw [← hL]; exact List.length_pos_iff.2 (fun e => by have := limbs_nil.1 e; omega)
 rw [hL] at h1 hl ⊢
 have HL := hid hL; clear hL
 have q0 : ((L : Int) == 0) = false := by simp; omega
 have hmk : ∀ W : World, (Instr.makeSlice 156 (.int .i64 (9 * (L : Int))) (.int .i64 (9 * (L : Int)))).run Tryz.prog W = .ok (.slice (some ⟨W.heap.size, 0, none⟩) (9 * L) (9 * L)) (W.alloc (.cells (madeCells #[.int .u8 0] (9 * L)) 5)) := fun W => by
  have := make_bytes (9 * L) (by omega) W
  rwa [Int.natCast_mul] at this
 go_enter Tryz.func76, Tryz.ntmps76
 go_wp2_with fail
 clear hmk q0
 go_loopw [4, 5, 6] (fun ii nn kk wr => ∃ (i : Nat) (bs : List UInt8), ii = .int .i64 i ∧ i ≤ L ∧ Hid (WrI n i bs) ∧ Hid (BArr 5 wr w.heap.size bs) ∧ Hid (Below w.heap.size w wr)) (fun ii _ _ _ => L - (intOf ii).toNat)
 case atStart => exact ⟨0, _, rfl, Nat.zero_le _, WrI.start n, by rw [HL.out]; exact BArr.made w 5 (9 * L), (Below.refl _ _).alloc (Nat.le_refl _) _⟩
 case round =>
  obtain ⟨i, bs, rfl, hi, hW, hO, hB⟩ := hrel
  by_cases hlt : i < L
  ·obtain ⟨x, hx⟩ : ∃ x, (limbs n)[L - 1 - i]? = some x := ⟨_, List.getElem?_eq_getElem (by rw [HL.out]; omega)⟩
   obtain ⟨g, o, rfl, hg, hc⟩ := H3.out _ x hx
   have d1 := (hB.out.cell (p := ⟨g, o + (L - 1 - i), none⟩) hg).trans hc
   have hxl := (sm_limbs n).get hx
   have HX := hid hx; clear hx hc
   go_wp2_with fail
   go_loopw [5, 6] (fun nn kk wq => ∃ (k y : Nat) (t : Int) (bs : List UInt8), nn = .int .i64 y ∧ kk = .int .i64 t ∧ t = (k : Int) - 1 ∧ k ≤ 9 ∧ y < 1000000000 ∧ Hid (WrJ n i x k y bs) ∧ Hid (BArr 5 wq w.heap.size bs) ∧ Hid (Below w.heap.size w wq)) (fun _ kk _ => (intOf kk + 1).toNat)
   case atStart => exact ⟨9, x, _, bs, rfl, rfl, by omega, by omega, hxl, hW.out.enter, hO, hB⟩
   case round =>
    obtain ⟨k, y, t, bs2, rfl, rfl, ht, hk, hy, hJ, hO2, hB2⟩ := hrel
    have hbl := hid (show bs2.length = 9 * L from by rw [hJ.out.len, HL.out])
    cases k with
    | zero =>
     obtain rfl : t = -1 := by omega
     clear ht
     have HN := hid (hJ.out.leave (by rw [HL.out]; exact HX.out) (by rw [HL.out]; exact hlt))
     go_wp2_with fail
     go_roundw
     case rel => exact ⟨i + 1, bs2, by go_num, by omega, HN, hO2, hB2⟩
     case measure => simp [intOf] <;> omega
    | succ k =>
     obtain rfl : t = (k : Int) := by omega
     clear ht
     have HN := hid (hJ.out.next (by omega) (by rw [HL.out]; exact hlt))
     obtain ⟨z, hz⟩ : ∃ z, bs2[9 * i + k]? = some z := ⟨_, List.getElem?_eq_getElem (by rw [hbl.out]; omega)⟩
     have d3 := hO2.out.cell hz
     have d4 := hO2.out.free (9 * i + k)
     clear hz
     go_wp2_with fail
     go_roundw
     case rel =>
      refine ⟨k, y / 10, _, bs2.set (9 * i + k) (UInt8.ofNat (48 + y % 10)), by go_num, rfl, by omega, by omega, by omega, HN, ?_, below_set hB2.out (Nat.le_refl _) _⟩
      have hz : (48 + (y : Int) % 10) = ((UInt8.ofNat (48 + y % 10)).toNat : Int) := by rw [digit_ofNat (by omega)]; omega
      rw [hz]
      exact hO2.out.set _ _
     case measure => simp [intOf] <;> omega
  ·obtain rfl : i = L := by omega
   obtain ⟨hdig, hval⟩ := WrI.done (by have := hW.out; rw [← HL.out] at this; exact this)
   have HD := hid hdig; have HV := hid hval
   have hbl := hid (show bs.length = 9 * i from by rw [hW.out.len, HL.out])
   clear hdig hval
   go_wp2_with fail
   go_loop [3] (fun b => ∃ r : Nat, r + 1 ≤ 9 * i ∧ b = .slice (some ⟨w.heap.size, r, none⟩) (9 * i - r) (9 * i - r) ∧ Hid (dv (bs.drop r) = n)) (fun b => match b with | .slice _ m _ => m | _ => 0)
   case atStart => exact ⟨0, by omega, rfl, by rw [Hid, List.drop_zero]; exact HV.out⟩
   case round =>
    obtain ⟨r, hr, rfl, hv⟩ := hrel
    obtain ⟨z, hz⟩ : ∃ z, bs[r]? = some z := ⟨_, List.getElem?_eq_getElem (by rw [hbl.out]; omega)⟩
    have d3 := hO.out.cell hz
    obtain ⟨m, hm⟩ : ∃ m, m = 9 * i - r := ⟨_, rfl⟩
    rw [← hm]
    have hm1 : 1 ≤ m := by omega
    have hm9 : m ≤ 9000000 := by omega
    have HM := hid hm
    by_cases hgo : 1 < m ∧ z = 48
    ·obtain ⟨g1, rfl⟩ := hgo
     have q1 : decide ((1 : Int) < (m : Int)) = true := by simp; omega
     have HN := hid (dv_zero_head hz)
     clear hz hm
     go_wp2_with fail
     go_round
     case rel => exact ⟨r + 1, by have := HM.out; omega, by rw [show 9 * i - (r + 1) = m - 1 by have := HM.out; omega], by rw [Hid, HN.out]; exact hv.out⟩
     case measure => simp; omega
    ·have hfin := hid (strip_done HD.out hv.out (by rw [hbl.out]; omega) (by
      rw [hbl.out]
      by_cases h1 : 1 < m
      ·right
       rw [hz]
       intro e
       injection e with e
       exact hgo ⟨h1, e⟩
      ·left; omega))
     have hcv : (convert 156 9 (.slice (some ⟨w.heap.size, r, none⟩) m m)).run Tryz.prog wr = .ok (numV n) wr := by
      have hlen : (bs.drop r).length = m := by rw [List.length_drop, hbl.out, hm]
      have := Go.run_convert_bytes_back (P := Tryz.prog) wr 156 9 5 ⟨w.heap.size, r, none⟩ m (bs.drop r) Tryz.underlying156 Tryz.underlying5 Tryz.underlying9 (fun j hj => by
       rw [Addr.add_lit]
       refine hO.out.cell ?_
       have h2 : r + j < bs.length := by rw [hlen] at hj; rw [hbl.out]; omega
       rw [List.getElem?_eq_getElem h2, List.getElem_drop])
      rw [hlen, hfin.out] at this
      exact this
     by_cases h1 : 1 < m
     ·have q1 : decide ((1 : Int) < (m : Int)) = true := by simp; omega
      have q2 : ((z.toNat : Int) == 48) = false := by
       rw [beq_eq_false_iff_ne]
       intro e
       refine hgo ⟨h1, ?_⟩
       have : z.toNat = (48 : UInt8).toNat := by simp; omega
       exact UInt8.toNat_inj.1 this
      clear hz hm hgo h1
      go_wp2_with fail
      go_ret
      exact ⟨rfl, hB.out⟩
     ·obtain rfl : m = 1 := by omega
      clear hz hm hgo h1
      go_wp2_with fail
      go_ret
      exact ⟨rfl, hB.out⟩
theorem r1_Check (w : World) (s : ByteArray) (hs : s.size ≤ 9223372036854775807) : Calls Tryz.prog 125 #[.string s] w fun e w' => e = .returned (.int .i64 (errN s.data.toList)) ∧ w = w' := by
 have hsl := hid (show s.data.toList.length = s.size from by simp)
 by_cases h0 : s.size = 0
 ·have hnil : s.data.toList = [] := List.eq_nil_of_length_eq_zero (by rw [hsl.out, h0])
  obtain rfl : s = ⟨#[]⟩ := by
   cases s with
   | mk d => simp at hnil; rw [hnil]
  clear hsl h0 hnil hs
  go_enter Tryz.func125, Tryz.ntmps125
  go_wp2_with fail
  go_ret
  exact ⟨ret_int (by rw [errN_bad]; exact fun h => h.1 rfl), rfl⟩
 ·have hpos : 0 < s.size := by omega
  have hne : s.data.toList.isEmpty = false := by
   rw [List.isEmpty_eq_false_iff]
   intro e
   have := hsl.out; rw [e] at this; simp at this; omega
  have hn : ¬ s.toList = [] := by rw [Go.ByteArray.toList_eq]; intro e; rw [e] at hne; cases hne
  have hn2 : s.toList.isEmpty = false := by rw [Go.ByteArray.toList_eq]; exact hne
  have hb0 := hid (byte_get hpos)
  clear hne
  by_cases hz : s[0] = 48 ∧ 1 < s.size
  ·have q1 : ((s[0].toNat : Int) == 48) = true := by rw [hz.1]; rfl
   have q2 : decide ((1 : Int) < (s.size : Int)) = true := by simp; omega
   have hbad := hid (show ¬ isForm s.data.toList from fun h => by
    rcases h.2.1 with h1 | h1
    ·have := congrArg List.length h1
     rw [hsl.out] at this; simp at this; omega
    ·rw [List.head?_eq_getElem?, hb0.out, hz.1] at h1
     exact h1 rfl)
   clear hz
   go_enter Tryz.func125, Tryz.ntmps125
   go_wp2_with fail
   go_ret
   exact ⟨ret_int (by rw [errN_bad hbad.out]), rfl⟩
  ·have hform : allDig s.data.toList → isForm s.data.toList := fun hd => by
    refine ⟨fun e => by have := hsl.out; rw [e] at this; simp at this; omega, ?_, hd⟩
    by_cases h48 : s[0] = 48
    ·left
     have h1 : s.data.toList.length = 1 := by
      have : ¬ 1 < s.size := fun h => hz ⟨h48, h⟩
      rw [hsl.out]; omega
     match hm : s.data.toList, h1 with
     | [c], _ =>
      have := hb0.out
      rw [hm] at this
      simp at this
      rw [this, h48]
    ·right
     rw [List.head?_eq_getElem?, hb0.out]
     simpa using h48
   have HF := hid hform
   have hI : (((s[0].toNat : Int) == 48) = false ∧ decide ((1 : Int) < (s.size : Int)) = decide ((1 : Int) < (s.size : Int))) ∨ (((s[0].toNat : Int) == 48) = true ∧ decide ((1 : Int) < (s.size : Int)) = false) := by
    by_cases h48 : s[0] = 48
    ·right
     have : ¬ 1 < s.size := fun h => hz ⟨h48, h⟩
     refine ⟨by rw [h48]; rfl, by simp; omega⟩
    ·left
     refine ⟨?_, rfl⟩
     rw [beq_eq_false_iff_ne]
     intro e
     refine h48 ?_
     have : s[0].toNat = (48 : UInt8).toNat := by simp; omega
     exact UInt8.toNat_inj.1 this
   clear hform hz
   rcases hI with ⟨q1, -⟩ | ⟨q1, q2⟩
   all_goals
    go_enter Tryz.func125, Tryz.ntmps125
    go_wp2_with fail
    clear q1
    go_loop [3] (fun ii => ∃ i : Nat, ii = .int .i64 i ∧ i ≤ s.size ∧ Hid (∀ (j : Nat) (b : UInt8), j < i → s.data.toList[j]? = some b → isDig b = true)) (fun ii => s.size - (intOf ii).toNat)
    case atStart => exact ⟨0, rfl, Nat.zero_le _, fun j b hj => absurd hj (by omega)⟩
    case round =>
     obtain ⟨i, rfl, hi, hI⟩ := hrel
     by_cases hlt : i < s.size
     ·have hb := hid (byte_get hlt)
      have hbad : ¬ isDig s[i] = true → ¬ isForm s.data.toList := fun h hf => h (hf.2.2 _ (List.mem_of_getElem? hb.out))
      by_cases c1 : s[i].toNat < 48
      ·have q1 : decide ((s[i].toNat : Int) < 48) = true := by simp; omega
       have hB := hid (hbad (fun e => by have := isDig_iff.1 e; omega))
       clear hbad c1
       go_wp2_with fail
       go_ret
       exact ⟨ret_int (by rw [errN_bad hB.out]), rfl⟩
      ·by_cases c2 : 57 < s[i].toNat
       ·have q1 : decide ((s[i].toNat : Int) < 48) = false := by simp; omega
        have q2 : decide ((57 : Int) < (s[i].toNat : Int)) = true := by simp; omega
        have hB := hid (hbad (fun e => by have := isDig_iff.1 e; omega))
        clear hbad c1 c2
        go_wp2_with fail
        go_ret
        exact ⟨ret_int (by rw [errN_bad hB.out]), rfl⟩
       ·have q1 : decide ((s[i].toNat : Int) < 48) = false := by simp; omega
        have q2 : decide ((57 : Int) < (s[i].toNat : Int)) = false := by simp; omega
        have hD := hid (isDig_iff.2 (show 48 ≤ s[i].toNat ∧ s[i].toNat ≤ 57 by omega))
        clear hbad c1 c2
        go_wp2_with fail
        go_round
        case rel => exact ⟨i + 1, by go_num, by omega, fun j b hj hjb => by
         by_cases e : j = i
         ·subst e; have := hb.out; rw [hjb] at this; cases this; exact hD.out
         ·exact hI.out j b (by omega) hjb⟩
        case measure => simp [intOf] <;> omega
     ·obtain rfl : i = s.size := by omega
      have hF := hid (HF.out fun b hb => by
       obtain ⟨j, hj⟩ := List.getElem?_of_mem hb
       exact hI.out j b (by have := (List.getElem?_eq_some_iff.1 hj).1; rw [hsl.out] at this; exact this) hj)
      by_cases hlong : 4000 < s.size
      ·have q3 : decide ((4000 : Int) < (s.size : Int)) = true := by simp; omega
       have HL := hid hlong; clear hlong
       go_wp2_with fail
       go_ret
       exact ⟨ret_int (by rw [errN_long hF.out (by rw [hsl.out]; exact HL.out)]), rfl⟩
      ·have q3 : decide ((4000 : Int) < (s.size : Int)) = false := by simp; omega
       have HL := hid hlong; clear hlong
       go_wp2_with fail
       go_ret
       exact ⟨ret_int (by rw [errN_ok hF.out (by rw [hsl.out]; exact HL.out)]), rfl⟩
end Go.Proofs.YtgphopkifomffaaGreatDoor
namespace Go.Proofs.YtgphopkifomffaaGreatDoor
open Go.RowKit
theorem r2_digits (w : World) (s : ByteArray) (hs : s.size ≤ 9223372036854775807) : Calls Tryz.prog 131 #[.string s] w fun e w' =>
 e = .returned (.bool (formB s.data.toList)) ∧ w = w' := by
 by_cases hf : formB s.data.toList = true
 ·by_cases hl : 4000 < s.data.toList.length
  ·have H5 := hid (show errN s.data.toList = 5 from by rw [errN, if_pos hf, if_pos hl])
   have HF := hid hf
   rw [hf]
   clear hf hl
   go_enter Tryz.func131, Tryz.ntmps131
   go_wp2_with fail
   refine (r1_Check _ s hs).mono ?_; rintro e w1 ⟨rfl, rfl⟩
   rw [H5.out]
   go_wp2_with fail
   go_ret
   exact ⟨rfl, rfl⟩
  ·have H5 := hid (show errN s.data.toList = 0 from by rw [errN, if_pos hf, if_neg hl])
   have HF := hid hf
   rw [hf]
   clear hf hl
   go_enter Tryz.func131, Tryz.ntmps131
   go_wp2_with fail
   refine (r1_Check _ s hs).mono ?_; rintro e w1 ⟨rfl, rfl⟩
   rw [H5.out]
   go_wp2_with fail
   go_ret
   exact ⟨rfl, rfl⟩
 ·have H5 := hid (show errN s.data.toList = 3 from by rw [errN, if_neg hf])
  have hf' : formB s.data.toList = false := by simpa using hf
  rw [hf']
  clear hf hf'
  go_enter Tryz.func131, Tryz.ntmps131
  go_wp2_with fail
  refine (r1_Check _ s hs).mono ?_; rintro e w1 ⟨rfl, rfl⟩
  rw [H5.out]
  go_wp2_with fail
  go_ret
  exact ⟨rfl, rfl⟩
def isSlash (l : List UInt8) (k : Nat) : Prop := k ≤ l.length ∧ (∀ (j : Nat) (b : UInt8), j < k → l[j]? = some b → b ≠ 47) ∧ (k < l.length → l[k]? = some 47)
theorem r2_slash (w : World) (s : ByteArray) (hs : s.size ≤ 9223372036854775807) : Calls Tryz.prog 130 #[.string s] w fun e w' =>
 (∃ k : Nat, e = .returned (.int .i64 k) ∧ isSlash s.data.toList k) ∧ w = w' := by
 have hsl := hid (show s.data.toList.length = s.size from by simp)
 go_enter Tryz.func130, Tryz.ntmps130
 go_wp2_with fail
 go_loop [3] (fun ii => ∃ i : Nat, ii = .int .i64 i ∧ i ≤ s.size ∧ Hid (∀ (j : Nat) (b : UInt8), j < i → s.data.toList[j]? = some b → b ≠ 47)) (fun ii => s.size - (intOf ii).toNat)
 case atStart => exact ⟨0, rfl, Nat.zero_le _, fun j b hj => absurd hj (by omega)⟩
 case round =>
  obtain ⟨i, rfl, hi, hI⟩ := hrel
  by_cases hlt : i < s.size
  ·have hb := hid (byte_get hlt)
   by_cases c1 : s[i] = 47
   ·have q1 : ((s[i].toNat : Int) == 47) = true := by rw [c1]; rfl
    have hB := hid c1
    clear c1
    go_wp2_with fail
    go_ret
    exact ⟨⟨i, rfl, by rw [hsl.out]; omega, hI.out, fun _ => by rw [hb.out, hB.out]⟩, rfl⟩
   ·have q1 : ((s[i].toNat : Int) == 47) = false := by
     rw [beq_eq_false_iff_ne]
     intro e
     refine c1 ?_
     have : s[i].toNat = (47 : UInt8).toNat := by simp; omega
     exact UInt8.toNat_inj.1 this
    have hB := hid c1
    clear c1
    go_wp2_with fail
    go_round
    case rel => exact ⟨i + 1, by go_num, by omega, fun j b hj hjb => by
     by_cases e : j = i
     ·subst e; rw [hb.out] at hjb; cases hjb; exact hB.out
     ·exact hI.out j b (by omega) hjb⟩
    case measure => simp [intOf] <;> omega
  ·have e1 : i = s.size := by omega
   subst e1
   go_wp2_with fail
   go_ret
   exact ⟨⟨s.size, rfl, by rw [hsl.out]; omega, hI.out, fun h => by rw [hsl.out] at h; omega⟩, rfl⟩
theorem r2_integer_minus (w : World) (s : ByteArray) (hs : s.size ≤ 9223372036854775807) (h0 : 0 < s.size) (h1 : s[0] = 45) : Calls Tryz.prog 124 #[.string s] w fun e w' =>
 e = .returned (.tuple #[.bool true, .string (s.extract 1 s.size), .bool (formB (s.extract 1 s.size).data.toList && !decide ((s.extract 1 s.size).data.toList = [48]))]) ∧ w = w' := by
 have q0 : decide ((0 : Int) < (s.size : Int)) = true := by simp; omega
 have q1 : ((s[0].toNat : Int) == 45) = true := by rw [h1]; rfl
 have H0 := hid h1
 clear h1
 have hts : (s.extract 1 s.size).size ≤ 9223372036854775807 := by simp; omega
 obtain ⟨t, ht⟩ : ∃ t, s.extract 1 s.size = t := ⟨_, rfl⟩
 rw [ht] at hts ⊢
 have HT := hid ht
 obtain ⟨f, hf⟩ : ∃ f, formB t.data.toList = f := ⟨_, rfl⟩
 rw [hf]
 have HF := hid hf
 clear ht hf
 go_enter Tryz.func124, Tryz.ntmps124
 go_wp2_with fail
 rw [HT.out]
 refine (r2_digits _ t hts).mono ?_; rintro e w1 ⟨rfl, rfl⟩
 rw [HF.out]
 cases f
 ·go_wp2_with fail
  exact bodyPost_ret (v := .tuple #[.bool true, .string t, .bool false]) (by simp [results, Tryz.results124, go_sem]) rfl ⟨by simp, rfl⟩
 ·go_wp2_with fail
  refine bodyPost_ret (v := .tuple #[.bool true, .string t, .bool (!(t.toList == [48]))]) (by simp [results, Tryz.results124, go_sem]) rfl ⟨?_, rfl⟩
  rw [Go.ByteArray.toList_eq]
  simp
  exact Bool.eq_iff_iff.2 (by simp)
theorem r2_integer_plain (w : World) (s : ByteArray) (hs : s.size ≤ 9223372036854775807) (h1 : ∀ h : 0 < s.size, s[0] ≠ 45) : Calls Tryz.prog 124 #[.string s] w fun e w' =>
 e = .returned (.tuple #[.bool false, .string s, .bool (formB s.data.toList)]) ∧ w = w' := by
 obtain ⟨f, hf⟩ : ∃ f, formB s.data.toList = f := ⟨_, rfl⟩
 rw [hf]
 have HF := hid hf
 clear hf
 by_cases h0 : 0 < s.size
 ·have q0 : decide ((0 : Int) < (s.size : Int)) = true := by simp; omega
  have q1 : ((s[0].toNat : Int) == 45) = false := by
   rw [beq_eq_false_iff_ne]
   intro e
   refine h1 h0 ?_
   have : s[0].toNat = (45 : UInt8).toNat := by simp; omega
   exact UInt8.toNat_inj.1 this
  clear h1
  go_enter Tryz.func124, Tryz.ntmps124
  go_wp2_with fail
  refine (r2_digits _ s hs).mono ?_; rintro e w1 ⟨rfl, rfl⟩
  rw [HF.out]
  cases f
  all_goals
   go_wp2_with fail
   exact bodyPost_ret (v := .tuple #[.bool false, .string s, .bool _]) (by simp [results, Tryz.results124, go_sem]) rfl ⟨rfl, rfl⟩
 ·obtain rfl : s = ⟨#[]⟩ := by
   apply ByteArray.ext
   exact Array.eq_empty_of_size_eq_zero (by have : s.data.size = s.size := rfl; omega)
  clear h1 h0 hs
  go_enter Tryz.func124, Tryz.ntmps124
  go_wp2_with fail
  refine (r2_digits _ ⟨#[]⟩ (Nat.zero_le _)).mono ?_; rintro e w1 ⟨rfl, rfl⟩
  rw [HF.out]
  cases f
  all_goals
   go_wp2_with fail
   exact bodyPost_ret (v := .tuple #[.bool false, .string ⟨#[]⟩, .bool _]) (by simp [results, Tryz.results124, go_sem]) rfl ⟨rfl, rfl⟩
open Go.Lib (decDigits nDigits)
theorem ba_list_iff {a b : ByteArray} : a.data.toList = b.data.toList ↔ a = b := ⟨ba_ext, fun e => by rw [e]⟩
theorem r2_integer (w : World) (s : ByteArray) (hs : s.size ≤ 9223372036854775807) : Calls Tryz.prog 124 #[.string s] w fun e w' =>
 e = .returned (.tuple #[.bool (iM s), .string (iD s), .bool (iB s)]) ∧ w = w' := by
 have hl : s.data.toList.length = s.size := by simp
 by_cases h : ∃ h0 : 0 < s.size, s[0] = 45
 ·obtain ⟨h0, h1⟩ := h
  have hg := byte_get h0
  rw [h1] at hg
  obtain ⟨t, ht⟩ : ∃ t, s.data.toList = 45 :: t := by
   cases hc : s.data.toList with
   | nil => rw [hc] at hg; simp at hg
   | cons b t => rw [hc] at hg; simp at hg; exact ⟨t, by rw [hg]⟩
  have hM : iM s = true := by unfold iM Lib.hasPrefix; rw [ht]; simp [List.isPrefixOf]
  have hD : iD s = s.extract 1 s.size := by
   apply ba_ext
   rw [extract_list, ht]
   unfold iD Lib.trimPrefix
   rw [show Lib.hasPrefix s.data.toList [45] = true from hM, ht]
   have : s.size = t.length + 1 := by rw [← hl, ht]; simp
   simp [this]
  have H := r2_integer_minus w s hs h0 h1
  rw [← hD] at H
  have e : iB s = (formB (iD s).data.toList && !decide ((iD s).data.toList = [48])) := by
   unfold iB fB
   rw [hM, Bool.true_and]
   have : decide (iD s = ⟨#[48]⟩) = decide ((iD s).data.toList = [48]) := decide_eq_decide.2 (by rw [← ba_list_iff])
   rw [this]
  rw [hM, e]
  exact H
 ·have h1 : ∀ h : 0 < s.size, s[0] ≠ 45 := fun h0 e => h ⟨h0, e⟩
  have hM : iM s = false := by
   unfold iM Lib.hasPrefix
   cases hc : s.data.toList with
   | nil => rfl
   | cons b t =>
    have h0 : 0 < s.size := by rw [← hl, hc]; simp
    have hg := byte_get h0
    rw [hc] at hg
    simp at hg
    have h3 : ((45 : UInt8) == b) = false := by rw [beq_eq_false_iff_ne, hg]; exact fun e => h1 h0 e.symm
    simp [List.isPrefixOf, h3]
  have hD : iD s = s := by
   apply ba_ext
   unfold iD Lib.trimPrefix
   rw [show Lib.hasPrefix s.data.toList [45] = false from hM]
   simp
  have H := r2_integer_plain w s hs h1
  have e : iB s = formB s.data.toList := by unfold iB fB; rw [hM, hD]; simp
  rw [hM, hD, e]
  exact H
theorem slash_cut {s : ByteArray} {k : Nat} (h : isSlash s.data.toList k) : k ≤ s.size ∧ cW s = s.extract 0 k ∧ cS s = decide (k < s.size) ∧ (k < s.size → cB s = s.extract (k + 1) s.size) := by
 obtain ⟨h1, h2, h3⟩ := h
 have hl : s.data.toList.length = s.size := by simp
 rcases sl_cases s.data.toList with hn | ⟨A, B, hA, e⟩
 ·have hk : k = s.size := by
   rcases Nat.lt_or_ge k s.data.toList.length with hlt | hge
   ·exact absurd rfl (hn 47 (List.mem_of_getElem? (h3 hlt)))
   ·omega
  have hc := cut_none hn
  subst hk
  refine ⟨Nat.le_refl _, ?_, ?_, fun h => absurd h (Nat.lt_irrefl _)⟩
  ·apply ba_ext; rw [extract_list]; unfold cW; rw [hc, List.drop_zero, Nat.sub_zero, ← hl, List.take_length]
  ·unfold cS; rw [hc]; simp
 ·have hL : s.data.toList.length = A.length + 1 + B.length := by rw [e]; simp; omega
  have hk : k = A.length := by
   rcases Nat.lt_trichotomy k A.length with hlt | heq | hgt
   ·have := h3 (by omega)
    rw [e, List.getElem?_append_left hlt] at this
    exact absurd rfl (hA 47 (List.mem_of_getElem? this))
   ·exact heq
   ·exact absurd rfl (h2 A.length 47 hgt (by rw [e]; simp))
  have hc := cut_at (r := B) hA
  rw [← e] at hc
  subst hk
  refine ⟨by omega, ?_, ?_, fun _ => ?_⟩
  ·apply ba_ext; rw [extract_list, e]; unfold cW; rw [hc]; simp
  ·unfold cS; rw [hc]; simp; omega
  ·apply ba_ext; rw [extract_list]; unfold cB; rw [hc]
   have : s.size - (A.length + 1) = B.length := by omega
   rw [this, e, show A ++ 47 :: B = (A ++ [47]) ++ B by simp, List.drop_left' (by simp), List.take_length]
end Go.Proofs.YtgphopkifomffaaGreatDoor
namespace Go.Proofs.YtgphopkifomffaaGreatDoor
open Go.RowKit
theorem r1_Order (w : World) (v u : Value) (a b : Nat) (ha : IsN .i64 w v a) (hb : IsN .i64 w u b) :
 Calls Tryz.prog 132 #[v, u] w fun e w' => e = .returned (.int .i64 (ordN a b)) ∧ Below w.heap.size w w' := by
 obtain ⟨a1, c1, rfl, h1, h2, h3⟩ := ha.openI
 obtain ⟨a2, c2, rfl, k1, k2, k3⟩ := hb.openI
 have H3 := hid h3; have K3 := hid k3; clear h3 k3 ha hb
 by_cases hne : (limbs a).length = (limbs b).length
 ·obtain ⟨n, ea⟩ : ∃ n, (limbs a).length = n := ⟨_, rfl⟩
  have eb : (limbs b).length = n := hne.symm.trans ea
  rw [ea] at h1 ⊢
  rw [eb] at k1 ⊢
  have HA := hid ea; have HB := hid eb
  clear hne ea eb
  go_enter Tryz.func132, Tryz.ntmps132
  go_wp2_with fail
  go_loopw [5] (fun i wr => ∃ (k : Nat) (t : Int), k ≤ n ∧ i = .int .i64 t ∧ t = (k : Int) - 1 ∧ Hid ((limbs a).drop k = (limbs b).drop k) ∧ Hid (Below w.heap.size w wr)) (fun i _ => (intOf i + 1).toNat)
  case atStart => exact ⟨n, _, Nat.le_refl _, rfl, rfl, by rw [Hid, List.drop_of_length_le (by rw [HA.out]; exact Nat.le_refl _), List.drop_of_length_le (by rw [HB.out]; exact Nat.le_refl _)], Below.refl _ _⟩
  case round =>
   obtain ⟨k, t, hk, rfl, ht, hd, hB⟩ := hrel
   cases k with
   | zero =>
    obtain rfl : t = -1 := by omega
    clear ht
    go_wp2_with fail
    go_ret
    have : a = b := limbs_inj hd.out
    subst this
    exact ⟨ret_int ordN_eq.symm, hB.out⟩
   | succ k =>
    obtain rfl : t = (k : Int) := by omega
    clear ht
    obtain ⟨x, hx⟩ : ∃ x, (limbs a)[k]? = some x := ⟨_, List.getElem?_eq_getElem (by rw [HA.out]; omega)⟩
    obtain ⟨y, hy⟩ : ∃ y, (limbs b)[k]? = some y := ⟨_, List.getElem?_eq_getElem (by rw [HB.out]; omega)⟩
    obtain ⟨g, o, rfl, hg, hc⟩ := H3.out k x hx
    obtain ⟨g', o', rfl, hg', hc'⟩ := K3.out k y hy
    have d1 := (hB.out.cell (p := ⟨g, o + k, none⟩) hg).trans hc
    have d2 := (hB.out.cell (p := ⟨g', o' + k, none⟩) hg').trans hc'
    have HX := hid hx; have HY := hid hy; clear hx hy hc hc'
    have b1 : (0 : Int) ≤ (k : Int) := by omega
    have b2 : (k : Int) < (n : Int) := by omega
    rcases Nat.lt_trichotomy x y with hlt | heq | hgt
    ·have q1 : decide (x < y) = true := by simpa using hlt
     go_wp2_with fail
     go_quiet (fail)
     go_wp2_with fail
     go_ret
     exact ⟨ret_int (ordN_lt (ord_lt_at (HA.out.trans HB.out.symm) HX.out HY.out hd.out hlt)).symm, below_drewN hB.out _⟩
    ·have q1 : decide (x < y) = false := by simp; omega
     have q2 : decide (y < x) = false := by simp; omega
     go_wp2_with fail
     go_quiet (fail)
     go_wp2_with fail
     go_quiet (fail)
     go_wp2_with fail
     go_roundw
     case rel => exact ⟨k, _, by omega, rfl, rfl, drop_eq_next HX.out (by rw [HY.out, heq]) hd.out, below_drewN hB.out _⟩
     case measure => simp [intOf] <;> omega
    ·have q1 : decide (x < y) = false := by simp; omega
     have q2 : decide (y < x) = true := by simpa using hgt
     go_wp2_with fail
     go_quiet (fail)
     go_wp2_with fail
     go_quiet (fail)
     go_wp2_with fail
     go_ret
     exact ⟨ret_int (ordN_gt (ord_lt_at (HB.out.trans HA.out.symm) HY.out HX.out hd.out.symm hgt)).symm, below_drewN (below_drewN hB.out _) _⟩
 ·rcases Nat.lt_or_gt_of_ne hne with hlt | hgt
  ·have HL := hid (lt_of_length hlt)
   have q0 : (((limbs a).length : Int) != ((limbs b).length : Int)) = true := by simp; omega
   have q1 : decide ((limbs a).length < (limbs b).length) = true := by simpa using hlt
   clear hne
   go_enter Tryz.func132, Tryz.ntmps132
   go_wp2_with fail
   go_ret
   exact ⟨ret_int (ordN_lt HL.out).symm, Below.refl _ _⟩
  ·have HL := hid (lt_of_length hgt)
   have q0 : (((limbs a).length : Int) != ((limbs b).length : Int)) = true := by simp; omega
   have q1 : decide ((limbs a).length < (limbs b).length) = false := by simp; omega
   clear hne
   go_enter Tryz.func132, Tryz.ntmps132
   go_wp2_with fail
   go_ret
   exact ⟨ret_int (ordN_gt HL.out).symm, Below.refl _ _⟩
theorem make_limbs (n : Nat) (hn : n ≤ 3000000) (W : World) : (Instr.makeSlice 80 (.int .i64 (n : Int)) (.int .i64 (n : Int))).run Tryz.prog W = .ok (.slice (some ⟨W.heap.size, 0, none⟩) n n) (W.alloc (.cells (madeCells #[.int .i64 0] n) 3)) :=
 run_make_row' (P := Tryz.prog) 80 3 (.int .i64 0) 8 Tryz.underlying80 (by kernel_rfl) rfl .i64 .i64 n (by omega) (by omega) W
theorem r1_Times (w : World) (v u : Value) (a b : Nat) (ha : IsN .i64 w v a) (hb : IsN .i64 w u b) (hla : (limbs a).length ≤ 1000000) (hlb : (limbs b).length ≤ 1000000) :
 Calls Tryz.prog 87 #[v, u] w fun e w' => RetN .i64 (a * b) e w' ∧ Below w.heap.size w w' := by
 obtain ⟨a1, c1, rfl, h1, h2, h3⟩ := ha.openI
 obtain ⟨a2, c2, rfl, k1, k2, k3⟩ := hb.openI
 have H3 := hid h3; have K3 := hid k3; clear h3 k3 ha hb
 obtain ⟨n, ea⟩ : ∃ n, (limbs a).length = n := ⟨_, rfl⟩
 obtain ⟨m, eb⟩ : ∃ m, (limbs b).length = m := ⟨_, rfl⟩
 rw [ea] at h1 hla ⊢
 rw [eb] at k1 hlb ⊢
 have HA := hid ea; have HB := hid eb
 clear ea eb
 have hmk : ∀ W : World, (Instr.makeSlice 80 (.int .i64 ((n : Int) + m)) (.int .i64 ((n : Int) + m))).run Tryz.prog W = .ok (.slice (some ⟨W.heap.size, 0, none⟩) (n + m) (n + m)) (W.alloc (.cells (madeCells #[.int .i64 0] (n + m)) 3)) := fun W => by
  have := make_limbs (n + m) (by omega) W
  rwa [Int.natCast_add] at this
 go_enter Tryz.func87, Tryz.ntmps87
 go_wp2_with fail
 clear hmk
 go_loopw [6] (fun i wr => ∃ (k : Nat) (o : List Nat), i = .int .i64 k ∧ k ≤ n ∧ Hid (MulI a b k o) ∧ Hid (Arr .i64 3 wr w.heap.size o) ∧ Hid (Below w.heap.size w wr)) (fun i _ => n - (intOf i).toNat)
 case atStart => exact ⟨0, _, rfl, Nat.zero_le _, MulI.start a b, by rw [HA.out, HB.out]; exact Arr.made w .i64 3 (n + m), (Below.refl _ _).alloc (Nat.le_refl _) _⟩
 case round =>
  obtain ⟨i, o, rfl, hin, hM, hO, hB⟩ := hrel
  by_cases hlt : i < n
  ·obtain ⟨x, hx⟩ : ∃ x, (limbs a)[i]? = some x := ⟨_, List.getElem?_eq_getElem (by rw [HA.out]; exact hlt)⟩
   obtain ⟨g, og, rfl, hg, hc⟩ := H3.out _ x hx
   have HX := hid hx; have HC := hid hc; clear hx hc
   have hsize := hid (show o.length = n + m from by rw [hM.out.len, HA.out, HB.out])
   go_wp2_with fail
   obtain ⟨wo, rfl⟩ : ∃ wo : World, wo = wr := ⟨_, rfl⟩
   go_loopw [7, 8, 9] (fun cc kk nn wq => ∃ (c k : Nat) (o : List Nat), cc = .int .i64 c ∧ kk = .int .i64 k ∧ k ≤ m ∧ Hid (MulJ a b i x k c o) ∧ Hid (Arr .i64 3 wq w.heap.size o) ∧ Hid (Below w.heap.size w wq)) (fun _ kk _ _ => m - (intOf kk).toNat)
   case atStart => exact ⟨0, 0, o, rfl, rfl, Nat.zero_le _, hM.out.enter, hO, hB⟩
   case round =>
    obtain ⟨c, k, o, rfl, rfl, hkm, hJ, hO, hB⟩ := hrel
    have hsz : Hid (o.length = n + m) := by rw [Hid, hJ.out.len, HA.out, HB.out]
    by_cases hkl : k < m
    ·obtain ⟨y, hy⟩ : ∃ y, (limbs b)[k]? = some y := ⟨_, List.getElem?_eq_getElem (by rw [HB.out]; exact hkl)⟩
     obtain ⟨g', og', rfl, hg', hd⟩ := K3.out _ y hy
     obtain ⟨old, ho⟩ : ∃ old, o[i + k]? = some old := ⟨_, List.getElem?_eq_getElem (by rw [hsz.out]; omega)⟩
     have d1 := (hB.out.cell (p := ⟨g, og + i, none⟩) hg).trans HC.out
     have d2 := (hB.out.cell (p := ⟨g', og' + k, none⟩) hg').trans hd
     have d3 := hO.out.cell ho
     have d4 := hO.out.free (i + k)
     have hb1 := mul_bound (hJ.out.sm.get ho) ((sm_limbs a).get HX.out) ((sm_limbs b).get hy) hJ.out.c1
     have HN := hid (hJ.out.next HX.out hy ho)
     have hol := hJ.out.sm.get ho
     have hcl := hJ.out.c1
     have HP := hid (show ((x : Int) * (y : Int)) = ((x * y : Nat) : Int) from (Int.natCast_mul x y).symm)
     obtain ⟨p, hp⟩ : ∃ p, x * y = p := ⟨_, rfl⟩
     rw [hp] at hb1 HN HP
     have hp2 := hb1.2; have hb1 := hb1.1
     clear hd hy ho hp
     have e1 : (0 : Int) ≤ (i : Int) + k := by omega
     have e2 : (i : Int) + k < (n : Int) + m := by omega
     have f1 : (0 : Int) ≤ (i : Int) := by omega
     have f2 : (i : Int) < (n : Int) := by omega
     have f3 : (0 : Int) ≤ (k : Int) := by omega
     have f4 : (k : Int) < (m : Int) := by omega
     have e3 : IntKind.i64.wrap ((i : Int) + k) = (i : Int) + k := IntWalk.i64_in _ (by omega)
     have e4 : ((i : Int) + k).toNat = i + k := by omega
     have e5 : IntKind.i64.wrap ((x : Int) * (y : Int)) = (p : Int) := by rw [HP.out]; exact IntWalk.i64_in _ (by omega)
     have e6 : IntKind.i64.wrap ((old : Int) + (p : Int)) = (old : Int) + (p : Int) := IntWalk.i64_in _ (by omega)
     have e7 : IntKind.i64.wrap ((old : Int) + (p : Int) + (c : Int)) = (old : Int) + (p : Int) + (c : Int) := IntWalk.i64_in _ (by omega)
     go_wp2_with fail
     go_quiet (fail)
     clear e3 e4 e5 e6 e7
     go_wp2_with fail
     go_roundw
     case rel =>
      have hz : (((old : Int) + p + c) % 1000000000) = (((old + p + c) % 1000000000 : Nat) : Int) := by omega
      rw [hz]
      exact ⟨(old + p + c) / 1000000000, k + 1, _, by go_num, by go_num, by omega, HN, (hO.out.drewN _).set (i + k) _, below_set (below_drewN hB.out _) (Nat.le_refl _) _⟩
     case measure => simp [intOf] <;> omega
    ·obtain rfl : k = m := by omega
     have HJ := hid (show MulI a b (i + 1) (o.set (i + k) c) from by have := hJ.out; rw [← HB.out] at this ⊢; exact this.leave HX.out)
     obtain ⟨z, hz⟩ : ∃ z, o[i + k]? = some z := ⟨_, List.getElem?_eq_getElem (by rw [hsz.out]; omega)⟩
     have d3 := hO.out.cell hz
     have d4 := hO.out.free (i + k)
     clear hz
     go_wp2_with fail
     go_roundw
     case rel => exact ⟨i + 1, _, by go_num, by omega, HJ, hO.out.set (i + k) c, below_set hB.out (Nat.le_refl _) _⟩
     case measure => simp [intOf] <;> omega
  ·obtain rfl : i = n := by omega
   have hv := hid (show val o = a * b from MulI.done (by have := hM.out; rw [← HA.out] at this; exact this))
   have hl := hid (show o.length = i + m from by rw [hM.out.len, HA.out, HB.out])
   have hr := hid (show Row wr (.slice (some ⟨w.heap.size, 0, none⟩) (i + m) (i + m)) (ints .i64 o) from by
    have := hO.out.row (n := i + m) (c := i + m) (by rw [hl.out]; exact Nat.le_refl _) (Nat.le_refl _) (by unfold maxLen; omega)
    rwa [List.take_of_length_le (by rw [hl.out]; exact Nat.le_refl _)] at this)
   go_wp2_with (go_at_call 79; refine (r1_trim _ _ o hM.out.sm hr.out).mono ?_; rintro e w1 ⟨⟨v1, rfl, hv1⟩, rfl⟩)
   go_ret
   exact ⟨⟨v1, rfl, by rw [← hv.out]; exact hv1⟩, hB.out⟩
theorem r1_ReadF (w : World) (s : ByteArray) (hd : allDig s.data.toList) (hs : s.size ≤ 1000000) :
 Calls Tryz.prog 41 #[.string s] w fun e w' => RetFr w.heap.size .i64 (dv s.data.toList) e w' ∧ Below w.heap.size w w' := by
 obtain ⟨i0, hi, hz0, hz1, hz2⟩ := info_parts info_int
 have HD := hid hd; clear hd
 have hsl := hid (show s.data.toList.length = s.size from by simp)
 go_enter Tryz.func41, Tryz.ntmps41
 go_wp2_with fail
 go_loopw [3, 4, 5, 6] (fun o ee nn ii wr => ∃ (l : List Nat) (t : Int) (e : Nat), ee = .int .i64 t ∧ t ≤ s.size ∧ -9 < t ∧ e = t.toNat ∧ l.length ≤ s.size ∧ l.length + e ≤ s.size ∧ Hid (ReadI s.data.toList e l) ∧ Hid (wr.ownsRow w.heap.size 3 1 o l.length (ints .i64 l)) ∧ Hid (Below w.heap.size w wr))
  (fun _ ee _ _ _ => (intOf ee).toNat)
 case atStart => exact ⟨[], _, s.size, rfl, by omega, by omega, by simp, by simp, by simp, by have := ReadI.start s.data.toList; rw [hsl.out] at this; exact this, World.ownsRow_nil _ _ _ _, Below.refl _ _⟩
 case round =>
  obtain ⟨l, t, e, rfl, ht1, ht2, he, hl1, hl2, hR, hO, hB⟩ := hrel
  obtain ⟨ao, co, rfl⟩ := owns_ex hO.out
  by_cases h0 : e = 0
  ·have q0 : decide ((0 : Int) < t) = false := by simp; omega
   subst h0
   have hv := hid hR.out.done
   clear he
   go_wp2_with fail
   refine (r1_trim_at _ _ _ l hR.out.sm (Row.of_owns hO.out)).mono ?_
   rintro e w1 ⟨⟨m, rfl, hv1⟩, rfl⟩
   go_wp2_with fail
   go_ret
   refine ⟨⟨_, rfl, by rw [← hv.out]; exact hv1, fun g hg => (hO.out.lt g ?_).1⟩, hB.out⟩
   cases ao with
   | none => simp [Value.ownBlock] at hg
   | some ad => simpa [Value.ownBlock] using hg
  ·obtain rfl : t = (e : Int) := by omega
   clear he
   have q0 : decide ((0 : Int) < (e : Int)) = true := by simp; omega
   obtain ⟨L, hL⟩ : ∃ L, s.data.toList = L := ⟨_, rfl⟩
   obtain ⟨s0, hs0⟩ : ∃ s0, s0 = e - 9 := ⟨_, rfl⟩
   have HS0 := hid hs0
   have h3 : s0 ≤ e := by omega
   have h4 : e ≤ s0 + 9 := by omega
   have hI : (9 < e ∧ (e : Int) - 9 = (s0 : Int)) ∨ (e ≤ 9 ∧ (0 : Int) = (s0 : Int)) := by omega
   clear hs0
   rcases hI with ⟨h9, hse⟩ | ⟨h9, hse⟩
   all_goals
    have HSE := hid hse
    clear hse
    go_wp2_with fail
    go_loop [5, 6] (fun nn ii => ∃ (i x : Nat), ii = .int .i64 i ∧ nn = .int .i64 x ∧ s0 ≤ i ∧ i ≤ e ∧ x < 1000000000 ∧ Hid (x = dv ((L.drop s0).take (i - s0)))) (fun _ ii => e - (intOf ii).toNat)
    case atStart => exact ⟨s0, 0, by have hh := HSE.out; first | (rw [← hh]; done) | (congr 1; omega), rfl, Nat.le_refl _, h3, by omega, by simp [Hid]⟩
    case round =>
     obtain ⟨i, x, rfl, rfl, hi1, hi2, hx, hxd⟩ := hrel
     by_cases hlt : i < e
     ·have hsz : i < s.size := by omega
      have hb := byte_get hsz
      rw [hL] at hb
      have hdig := isDig_iff.1 (HD.out s[i] (List.mem_of_getElem? (by rw [hL]; exact hb)))
      have hd1 := hdig.1; have hd2 := hdig.2
      have hcs := hid (chunk_succ hb hi1)
      have hlt9 := hid (chunk_lt (L := L) (a := s0) (k := i + 1 - s0) (by rw [← hL]; exact HD.out) (by omega))
      clear hb hdig
      go_wp2_with fail
      go_round
      case rel =>
       refine ⟨i + 1, 10 * x + (s[i].toNat - 48), by go_num, ?_, by omega, by omega, ?_, ?_⟩
       ·congr 1; omega
       ·have := hlt9.out; rw [hcs.out, ← hxd.out] at this; exact this
       ·rw [Hid, hcs.out, ← hxd.out]
      case measure => simp [intOf] <;> omega
     ·obtain rfl : i = e := by omega
      have HN := hid (hR.out.next HD.out)
      rw [hL, ← HS0.out, ← hxd.out] at HN
      go_wp2_with (at_builtin; refine wpList_append_own _ rfl _ _ 80 rfl w.heap.size 3 i0 (.int .i64 0) 1 8 Tryz.underlying80 hi hz0 hz1 hz2 rfl (by decide) _ l.length _ rfl (hO.out.alloc _) ⟨wr.heap.size, 0, none⟩ 1 1 [.int .i64 (x : Int)] rfl rfl (cell_one_new wr (.int .i64 (x : Int)) 3) (by simp [Value.oneCell']) (by unfold maxLen; omega) (by omega) (by have := hB.out.size; simp; omega) ?_; intro v' w3 hown3 hgrow3 _; have HO3 := hid hown3; have HG3 := hid hgrow3; clear hown3 hgrow3)
      obtain ⟨n1, n2⟩ := own_next hO.out hB.out HO3.out HG3.out
      have N1 := hid n1; have N2 := hid n2; clear n1 n2 HO3 HG3
      obtain ⟨a3, k3, rfl⟩ := owns_ex N1.out
      have hS := HS0.out
      go_wp2_with fail
      go_roundw
      case rel => exact ⟨l ++ [x], _, s0, rfl, by omega, by omega, by omega, by simp <;> omega, by simp <;> omega, by rw [hL]; exact HN, N1, N2⟩
      case measure => simp [intOf] <;> omega
open Go.Lib (decDigits nDigits)
theorem r1_Write (w : World) (v : Value) (n : Nat) (h : IsN .i64 w v n) (hl : (limbs n).length ≤ 1000000) : Calls Tryz.prog 76 #[v] w fun e w' => e = .returned (numV n) ∧ Below w.heap.size w w' := by
 rcases Nat.eq_zero_or_pos n with rfl | h0
 ·exact r1_Write_zero w v h
 ·exact r1_Write_pos w v n h h0 hl
end Go.Proofs.YtgphopkifomffaaGreatDoor
