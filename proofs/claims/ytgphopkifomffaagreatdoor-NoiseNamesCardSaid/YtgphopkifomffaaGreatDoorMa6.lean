/- Texts that the proof rests on, merged: C6, E1, SeqB, E2, E3, E4, E5, Pc2, Sh3, Rep, Sd. -/
import Derived.Test.YtgphopkifomffaaGreatDoorMa5
import Derived.Deep.LoopGhost
import Derived.RangeFuncBox
import Derived.Scope
import Derived.Laws.IdiomStrings
import Derived.WalkSpells
import Derived.IntWalk
import Derived.Deep.RegionHeld3
import Derived.Deep.DeepCutAuto
import Derived.Deep.CutBlock
import Derived.Laws.Concat
import Derived.Shelf.Bits.Mul64
import Derived.Ground.NamesProg
import Derived.Test.YtgphopkifomffaaGreatDoorProg
import Derived.Laws.CopyOwn
import Derived.RegionTactic
namespace Go.Proofs.YtgphopkifomffaaGreatDoor
open Go.RowKit Go.Shelf
open Go.Lib (decDigits nDigits)
set_option linter.unusedVariables false
set_option linter.unusedSimpArgs false
def drawV (x : Bool × Nat × Nat) : Value := .agg #[.bool x.1, .int .i64 (x.2.1 : Nat), .int .i64 (x.2.2 : Nat)]
def lookV (g : Nat) : Value := .func (.func 229) #[.pointer (some ⟨g, 0, none⟩)] #[]
def readV (g : Nat) : Value := .func (.func 252) #[.pointer (some ⟨g, 0, none⟩)] #[]
def usedOf (w : World) (g : Nat) : Nat := match w.cell? ⟨g, 6, none⟩ with | some (.int _ u) => u.toNat | _ => 0
def drawM (n g : Nat) (nx : Value) (w : World) : Nat := match nx with
  | .func (.func f) _ _ => 2 * (n - usedOf w g) + (if f = 229 then 2 else 1)
  | _ => 0
def DrawI (g bn bd : Nat) (b : ByteArray) (N D : Nat) (nx : Value) (w : World) : Prop :=
  (∃ K T u, nx = lookV g ∧ Toss w g bn bd b N D K T u ∧ Cell K T u ∧ u ≤ b.size ∧ tossAt N D b.data.toList 0 1 0 = tossAt N D b.data.toList K T u) ∨
  (∃ K T u, nx = readV g ∧ Toss w g bn bd b N D K T u ∧ Cell K T u ∧ u < b.size ∧ sdB N D K T = false ∧ tossAt N D b.data.toList 0 1 0 = tossAt N D b.data.toList K T u) ∨
  (∃ (k t : ByteArray) (x : Bool × Nat × Nat), nx = .nilFunc ∧ Blk w g (tossC b k t bn bd x.1 (x.2.1 : Nat) (x.2.2 : Nat)) 261 ∧ x = tossAt N D b.data.toList 0 1 0)
theorem usedOf_blk {w : World} {g bn bd : Nat} {b k t : ByteArray} {d : Bool} {v : Int} {u : Nat} (h : Blk w g (tossC b k t bn bd d v u) 261) : usedOf w g = u := by
  have h6 : w.cell? ⟨g, 6, none⟩ = some (.int .i64 (u : Int)) := h.cell 6
  unfold usedOf
  rw [h6]
  simp
theorem drawM_look {n g : Nat} {w : World} : drawM n g (lookV g) w = 2 * (n - usedOf w g) + 2 := by simp [drawM, lookV]
theorem drawM_read {n g : Nat} {w : World} : drawM n g (readV g) w = 2 * (n - usedOf w g) + 1 := by simp [drawM, readV]
theorem neq_nil (fn : Fn) (bs cs : Array Value) (W : World) : (binOp BinOp.neq 263 (.func fn bs cs) .nilFunc).run Tryz.prog W = .ok (.bool true) W := by
  kernel_rfl
theorem neq_nil2 (W : World) : (binOp BinOp.neq 263 .nilFunc .nilFunc).run Tryz.prog W = .ok (.bool false) W := by
  kernel_rfl
set_option maxRecDepth 100000 in
set_option maxHeartbeats 2000000 in
theorem c_Draw_ok (w : World) (p b : ByteArray) (hp : p.size ≤ 100000) (hb : b.size ≤ 256) (hc : chkE b = 0) (he : cPE p = 0) (hL : Lay w) :
    Calls Tryz.prog 192 #[.string p, .string b] w fun e w' => e = .returned (.tuple #[drawV (tossAt (bN (cW p)) (bN (qD p)) b.data.toList 0 1 0), .int .i64 0]) ∧ Below w.heap.size w w' := by
  have HP := fun V hV => hid (c_parts V p hp hV)
  rw [he] at HP
  simp only [if_true] at HP
  have HC := fun V => hid (c_checked V b (by omega))
  rw [hc] at HC
  obtain ⟨e1, e2, hN, hD, hle⟩ := cPE_ok he
  obtain ⟨N, hn⟩ : ∃ N, bN (cW p) = N := ⟨_, rfl⟩
  obtain ⟨D, hd⟩ : ∃ D, bN (qD p) = D := ⟨_, rfl⟩
  rw [hn] at e1 hN
  rw [hd] at e2 hD
  rw [e1, e2] at HP
  rw [hn, hd]
  have HN := hid hN; have HD := hid hD; have HL := hid hL; have HB := hid hb
  have z0 := numB_of (s := (⟨#[48]⟩ : ByteArray)) rfl
  clear hn hd e1 e2 hN hD hle hL hc he hp
  obtain ⟨sn, hsn⟩ : ∃ s, numB N = s := ⟨_, rfl⟩
  obtain ⟨sd, hsd⟩ : ∃ s, numB D = s := ⟨_, rfl⟩
  rw [hsn, hsd] at HP
  have HSN := hid hsn; have HSD := hid hsd
  clear hsn hsd z0 hb
  have e27 : ∀ args w, (callFunc 229 args).run Tryz.prog w = .ok (.enter 229 args) w := enters_of Tryz.func229 (by kernel_rfl) rfl
  have e54 : ∀ args w, (callFunc 252 args).run Tryz.prog w = .ok (.enter 252 args) w := enters_of Tryz.func252 (by kernel_rfl) rfl
  go_enter Tryz.func192, Tryz.ntmps192
  go_wp2_with fail
  refine (HP _ (HL.out.call ((Below.refl _ _).alloc (Nat.le_refl _) _))).out.mono ?_; rintro e w1 ⟨rfl, hb1⟩
  have x1 := hid ((Blk.new w #[.bool false, .int .i64 0, .int .i64 0] 53).call hb1)
  have y1 := hid (bnext ((Below.refl w.heap.size w).alloc (Nat.le_refl _) (.cells #[.bool false, .int .i64 0, .int .i64 0] 53)) hb1)
  clear hb1
  go_wp2_with fail
  refine (HC _).out.mono ?_; rintro e w2 ⟨rfl, hb2⟩
  have x2 := hid (x1.out.call hb2)
  have y2 := hid (bnext y1.out hb2)
  clear hb2
  go_wp2_with fail
  refine (c_sides _ _ _).mono ?_; rintro e w3 ⟨rfl, rfl⟩
  go_wp2_with fail
  have hsz2 : w2.heap.size = w2.heap.size := rfl
  obtain ⟨g, hg⟩ : ∃ g, g = w2.heap.size + 1 + 1 := ⟨_, rfl⟩
  obtain ⟨bn, hbn⟩ : ∃ g, g = w2.heap.size := ⟨_, rfl⟩
  obtain ⟨bd, hbd⟩ : ∃ g, g = w2.heap.size + 1 := ⟨_, rfl⟩
  obtain ⟨W0, hW0⟩ : ∃ W0, (((w2.alloc (Obj.cells #[Value.string sn] 22)).alloc (Obj.cells #[Value.string sd] 22)).alloc
      (Obj.cells #[Value.string b, Value.string { data := #[48] }, Value.string { data := #[49] }, Value.func (Fn.func 249) #[] #[Value.pointer (some { block := w2.heap.size, off := 0 }), Value.pointer (some { block := w2.heap.size + 1, off := 0 })], Value.bool false, Value.int IntKind.i64 0, Value.int IntKind.i64 0] 261)) = W0 := ⟨_, rfl⟩
  rw [hW0, ← hg, ← hbd, ← hbn]
  have t0 : Toss W0 g bn bd b N D 0 1 0 := by
    refine ⟨?_, ?_, ?_, by omega, by omega⟩
    · rw [← hW0, hbn, hbd]
      have e0 : numB 0 = ⟨#[48]⟩ := by unfold numB; rw [dec_zero]
      have e1 : numB 1 = ⟨#[49]⟩ := by unfold numB; rw [dec_one]
      rw [e0, e1]
      exact Blk.made _ _ _ (by simp; omega)
    · rw [← hW0, HSN.out, hbn]
      exact ((Blk.new w2 _ _).alloc _).alloc _
    · rw [← hW0, HSD.out, hbd]
      exact (Blk.made _ _ _ (by simp)).alloc _
  have b0 : Below w2.heap.size w2 W0 := by
    rw [← hW0]
    exact (((Below.refl _ _).alloc (Nat.le_refl _) _).alloc (by simp) _).alloc (by simp; omega) _
  have HG := hid hg
  have hLG : LayLt g := by
    have h1 := (HL.out.call y2.out).lt
    exact ⟨by have := h1.1; omega, by have := h1.2; omega⟩
  have HLG := hid hLG
  have T0 := hid t0
  have B0 := hid b0
  clear hW0 hg hbn hbd t0 b0 hsz2 HP HC hLG
  have hq1 := fun (fn : Fn) (bs cs : Array Value) (W : World) => neq_nil fn bs cs W
  have hq2 := fun (W : World) => neq_nil2 W
  go_loopw [10] (fun nx wr => DrawI g bn bd b N D nx wr ∧ Hid (Below w2.heap.size w2 wr)) (fun nx wr => drawM b.size g nx wr)
  case atStart => exact ⟨.inl ⟨0, 1, 0, rfl, T0.out, ⟨rfl, by omega⟩, by omega, rfl⟩, B0.out⟩
  case round =>
    obtain ⟨hI, hB⟩ := hrel
    rcases hI with ⟨K, T, u, rfl, ht, hc, hu, heq⟩ | ⟨K, T, u, rfl, ht, hc, hu, hsb, heq⟩ | ⟨k, t, x, rfl, hbk, hx⟩
    · have HT := hid ht; have HCl := hid hc; have HU := hid hu; have HE := hid heq
      have HM := hid (usedOf_blk ht.blk)
      clear ht hc hu heq
      simp only [lookV]
      go_wp2_with fail
      refine (c_look _ g bn bd b N D K T u HT.out (HCl.out.fits (by have := HU.out; have := HB.out; omega) HN.out HD.out) ((HL.out.call y2.out).call hB.out) (by have := HB.out; omega) HU.out).mono ?_
      rintro e w5 ⟨hb5, hcases⟩
      have B5 := hid (hB.out.trans (hb5.mono (by have := HG.out; omega)))
      clear hb5
      rcases hcases with ⟨h1, rfl, h2⟩ | ⟨h1, h3, rfl, h2⟩ | ⟨h1, h3, rfl, h2⟩
      · have K1 := hid h1; have K2 := hid h2
        clear h1 h2
        go_wp2_with fail
        go_roundw
        case rel => exact ⟨.inr (.inr ⟨_, _, (true, sdV N D K T, u), rfl, K2.out, by rw [HE.out, tossAt_done K1.out]⟩), B5⟩
        case measure => exact (by show drawM b.size g .nilFunc _ < drawM b.size g (lookV g) _; rw [drawM_look]; simp [drawM])
      · have K1 := hid h1; have K2 := hid h2; have K3 := hid h3
        clear h1 h2 h3
        go_wp2_with fail
        go_roundw
        case rel => exact ⟨.inr (.inr ⟨_, _, (false, 0, u), rfl, K2.out.blk, by rw [HE.out, K3.out, ← list_size, tossAt_late K1.out]⟩), B5⟩
        case measure => exact (by show drawM b.size g .nilFunc _ < drawM b.size g (lookV g) _; rw [drawM_look]; simp [drawM])
      · have K1 := hid h1; have K2 := hid h2; have K3 := hid h3
        clear h1 h2 h3
        go_wp2_with fail
        go_roundw
        case rel => exact ⟨.inr (.inl ⟨K, T, u, rfl, K2.out, HCl.out, K3.out, K1.out, HE.out⟩), B5⟩
        case measure => exact (by show drawM b.size g (readV g) _ < drawM b.size g (lookV g) _; rw [drawM_look, drawM_read, HM.out, usedOf_blk K2.out.blk]; omega)
    · have HT := hid ht; have HCl := hid hc; have HU := hid hu; have HE := hid heq; have HSB := hid hsb
      have HM := hid (usedOf_blk ht.blk)
      clear ht hc hu heq hsb
      simp only [readV]
      go_wp2_with fail
      refine (c_read _ g bn bd b N D K T u HT.out (HCl.out.fits (by have := HU.out; have := HB.out; omega) HN.out HD.out) ((HL.out.call y2.out).call hB.out) (by have := HB.out; omega) HU.out HLG.out).mono ?_
      rintro e w5 ⟨hb5, rfl, h2⟩
      have B5 := hid (hB.out.trans (hb5.mono (by have := HG.out; omega)))
      have K2 := hid h2
      clear hb5 h2
      go_wp2_with fail
      go_roundw
      case rel => exact ⟨.inl ⟨_, _, u + 1, rfl, K2.out, HCl.out.next (by split <;> omega), HU.out, by
        rw [HE.out]
        exact tossAt_next HSB.out (by rw [list_size]; exact HU.out)⟩, B5⟩
      case measure => exact (by show drawM b.size g (lookV g) _ < drawM b.size g (readV g) _; rw [drawM_look, drawM_read, HM.out, usedOf_blk K2.out.blk]; have := HU.out; omega)
    · have HK := hid hbk; have HX := hid hx
      have x3 := hid (x2.out.call hB.out)
      have d4 : wr.cell? ⟨g, 4, none⟩ = some (.bool x.1) := hbk.cell 4
      have d5 : wr.cell? ⟨g, 5, none⟩ = some (.int .i64 (x.2.1 : Nat)) := hbk.cell 5
      have d6 : wr.cell? ⟨g, 6, none⟩ = some (.int .i64 (x.2.2 : Nat)) := hbk.cell 6
      have r0 : wr.cell? ⟨w.heap.size, 0, none⟩ = some (.bool false) := x3.out.cell 0
      have r1 : wr.cell? ⟨w.heap.size, 1, none⟩ = some (.int .i64 0) := x3.out.cell 1
      have r2 : wr.cell? ⟨w.heap.size, 2, none⟩ = some (.int .i64 0) := x3.out.cell 2
      have f0 := x3.out.free 0
      have f1 := x3.out.free 1
      have f2 := x3.out.free 2
      clear hbk hx
      go_wp2_with fail
      have s3 := ((x3.out.set 0 (.bool x.1)).set 1 (.int .i64 (x.2.1 : Nat))).set 2 (.int .i64 (x.2.2 : Nat))
      have k0 := s3.cell 0
      have k1 := s3.cell 1
      have k2 := s3.cell 2
      simp at k0 k1 k2
      refine bodyPost_ret (v := .tuple #[.agg #[.bool x.1, .int .i64 (x.2.1 : Nat), .int .i64 (x.2.2 : Nat)], .int .i64 0]) (by simp [results, Tryz.results192, go_sem, k0, k1, k2]) rfl ⟨by rw [← HX.out]; rfl, ?_⟩
      exact (((y2.out.trans (hB.out.mono y2.out.size)).setCell (Nat.le_refl _) _).setCell (Nat.le_refl _) _).setCell (Nat.le_refl _) _
end Go.Proofs.YtgphopkifomffaaGreatDoor
namespace Go.Proofs.YtgphopkifomffaaGreatDoor
open Go.RowKit Go.Shelf
open Go.Lib (decDigits nDigits)
set_option linter.unusedVariables false
set_option linter.unusedSimpArgs false
def gE (a b : ByteArray) : Int := if gPE a ≠ 0 then gPE a else chkE b
set_option maxRecDepth 100000 in
set_option maxHeartbeats 1000000 in
theorem g_check (w : World) (a b : ByteArray) (ha : a.size ≤ 100000) (hb : b.size ≤ 100000) (hL : Lay w) :
    Calls Tryz.prog 90 #[.string a, .string b] w fun e w' => e = .returned (.int .i64 (gE a b)) ∧ Below w.heap.size w w' := by
  have HR := hid (g_ratio w a ha hL)
  have HC := fun V => hid (b_Check V b (by omega))
  obtain ⟨s1, hs1⟩ : ∃ s, (if gPE a = 0 then cW a else ⟨#[]⟩) = s := ⟨_, rfl⟩
  obtain ⟨s2, hs2⟩ : ∃ s, (if gPE a = 0 then qD a else ⟨#[]⟩) = s := ⟨_, rfl⟩
  rw [hs1, hs2] at HR
  clear hs1 hs2
  by_cases h1 : gPE a = 0
  · have e1 : gE a b = chkE b := by rw [gE, if_neg (fun h => h h1)]
    rw [e1]
    rw [h1] at HR
    by_cases h2 : bitB b = true
    · have e2 : bitE b = 0 := if_pos h2
      rw [e2] at HC
      by_cases h3 : 256 < b.size
      · have e3 : chkE b = 4 := by rw [chkE, if_pos h2, if_pos h3]
        have q0 : decide ((256 : Int) < (b.size : Int)) = true := by simp; omega
        rw [e3]
        clear h1 h2 h3 e1 e2 e3 hL
        go_enter Tryz.func90, Tryz.ntmps90
        go_wp2_with fail
        refine HR.out.mono ?_; rintro e w1 ⟨rfl, hb1⟩
        have y1 := hid hb1; clear hb1
        go_wp2_with fail
        refine (HC _).out.mono ?_; rintro e w2 ⟨rfl, hb2⟩
        have y2 := hid (bnext y1.out hb2); clear hb2
        go_wp2_with fail
        go_ret
        exact ⟨rfl, y2.out⟩
      · have e3 : chkE b = 0 := by rw [chkE, if_pos h2, if_neg h3]
        have q0 : decide ((256 : Int) < (b.size : Int)) = false := by simp; omega
        rw [e3]
        clear h1 h2 h3 e1 e2 e3 hL
        go_enter Tryz.func90, Tryz.ntmps90
        go_wp2_with fail
        refine HR.out.mono ?_; rintro e w1 ⟨rfl, hb1⟩
        have y1 := hid hb1; clear hb1
        go_wp2_with fail
        refine (HC _).out.mono ?_; rintro e w2 ⟨rfl, hb2⟩
        have y2 := hid (bnext y1.out hb2); clear hb2
        go_wp2_with fail
        go_ret
        exact ⟨rfl, y2.out⟩
    · have e2 : bitE b = 3 := if_neg h2
      have e3 : chkE b = 3 := if_neg h2
      rw [e2] at HC
      rw [e3]
      clear h1 h2 e1 e2 e3 hL
      go_enter Tryz.func90, Tryz.ntmps90
      go_wp2_with fail
      refine HR.out.mono ?_; rintro e w1 ⟨rfl, hb1⟩
      have y1 := hid hb1; clear hb1
      go_wp2_with fail
      refine (HC _).out.mono ?_; rintro e w2 ⟨rfl, hb2⟩
      have y2 := hid (bnext y1.out hb2); clear hb2
      go_wp2_with fail
      go_ret
      exact ⟨rfl, y2.out⟩
  · have e1 : gE a b = gPE a := by rw [gE, if_pos h1]
    rw [e1]
    obtain ⟨x, hx⟩ : ∃ x, gPE a = x := ⟨_, rfl⟩
    rw [hx] at HR h1 ⊢
    have q0 : (x == 0) = false := by simpa using h1
    have q1 : (x != 0) = true := by simpa using h1
    clear h1 e1 hx hL
    go_enter Tryz.func90, Tryz.ntmps90
    go_wp2_with fail
    refine HR.out.mono ?_; rintro e w1 ⟨rfl, hb1⟩
    have y1 := hid hb1; clear hb1
    go_wp2_with fail
    go_ret
    exact ⟨rfl, y1.out⟩
set_option maxRecDepth 100000 in
set_option maxHeartbeats 1000000 in
theorem g_coins (w : World) (a b : ByteArray) :
    Calls Tryz.prog 136 #[.string a, .string b] w fun e w' => e = .returned (.func (.func 191) #[] #[.pointer (some ⟨w.heap.size, 0, none⟩), .pointer (some ⟨w.heap.size + 1, 0, none⟩)]) ∧ w' = (w.alloc (.cells #[.string a] 22)).alloc (.cells #[.string b] 34) := by
  go_enter Tryz.func136, Tryz.ntmps136
  go_wp2_with fail
  go_ret
  exact ⟨rfl, rfl⟩
end Go.Proofs.YtgphopkifomffaaGreatDoor
namespace Go.Proofs.YtgphopkifomffaaGreatDoor
open Go.RowKit
def FeedsB {α : Type} (M n : Nat) (P : Program) (g : Nat) (lb : Array Value) (encs : α → Array Value) (Kp : World → World → Prop) (Ok : List α → α → Prop) (S Sp : List α → Prop) (w : World) : Prop :=
  ∀ (l : Nat) (J Jx : List α → World → Prop) (W : World), Below w.heap.size w W → AbidesFrom W.heap.size J → AbidesFrom W.heap.size Jx →
    (∀ pre x W1, Ok pre x → J pre W1 → YieldAt Fence.wide (n - 1) P l (encs x) W1 fun e W2 =>
      (e = .returned (.bool true) ∧ J (pre ++ [x]) W2 ∧ Kp W1 W2) ∨ (e = .returned (.bool false) ∧ Jx (pre ++ [x]) W2)) →
    (∀ pre W1, J pre W1 → pre.length ≤ M) →
    J [] W →
    CallsIn Fence.wide n P g (#[.func (.yield l) #[] #[]] ++ lb) W fun e W2 => (∃ v, e = .returned v) ∧ ((∃ xs, S xs ∧ J xs W2) ∨ (∃ pre, Sp pre ∧ Jx pre W2))
theorem range_okB {α : Type} {P : Program} {n : Nat} {g : Operand} {ps : Array Tmp} {assign body : Code} {Q : Exit → Act → World → Prop} {a : Act} {w : World} (h1 : 1 ≤ n)
    {gf : Nat} {lb : Array Value} (hg : a.eval g = .func (.func gf) #[] lb) (eg : ∀ args w, (callFunc gf args).run P w = .ok (.enter gf args) w)
    {encs : α → Array Value} {Kp : World → World → Prop} {Ok : List α → α → Prop} {S Sp : List α → Prop} {w0 : World} {M : Nat} (hseq : FeedsB M (n - 1) P gf lb encs Kp Ok S Sp w0)
    (hKt : ∀ {A B C : World}, Kp A B → Kp B C → Kp A C) (hKb : ∀ (W : World) (l : Nat) (o o2 : Obj), w.heap.size ≤ l → W.heap[l]? = some o → o.isCells = false → o.isWalk = false → Kp W (W.putObj l o2)) (hb0 : Below w0.heap.size w0 w) (hps : ∀ x, (encs x).size = ps.size)
    (I : List α → World → Prop) (Ix : Code → List α → World → Prop) (hI : OwnFrom w.heap.size I) (hIx : ∀ c, OwnFrom w.heap.size (Ix c)) (h0 : I [] w) (hM : ∀ pre W, I pre W → pre.length ≤ M) (a1 : α → Act)
    (hassign : ∀ (l : Nat) (x : α) (W : World) (K : Act → World → Prop), K (a1 x) W →
      assign.wpIn (Fence.wide.inRound l) (n - 1 - 1) P (Exit.then K (fun _ _ _ => False)) { tmps := (ps.zip (encs x)).foldl (fun t (p, v) => t.setIfInBounds p v) a.tmps, defers := [] } W)
    (hbody : ∀ (l : Nat) (pre : List α) (x : α) (W : World), Ok pre x → I pre W → body.wpIn (Fence.wide.inRound l) (n - 1 - 1) P (ownPostG w.heap.size Kp I Ix (pre ++ [x]) W) (a1 x) W)
    (hdone : ∀ (D : Nat) (xs : List α) (W : World), w.heap.size ≤ D → S xs → I xs W → W.heap[D]? = some (.deferred (some [])) → Q .normal { a with defers := { target := .collected D, args := #[] } :: a.defers } W)
    (hstop : ∀ (D : Nat) (c : Code) (pre : List α) (W : World), w.heap.size ≤ D → Sp pre → Ix c pre W → W.heap[D]? = some (.deferred (some [])) → c.wpIn Fence.wide n P Q { a with defers := { target := .collected D, args := #[] } :: a.defers } W) :
    (Code.rangeFunc g ps assign body).wpIn Fence.wide n P Q a w := by
  refine wpIn_rangeFunc fun fn hfn => ?_
  obtain ⟨R, hR⟩ : ∃ R : LoopState → Option Code → Loop, ∀ s p, R s p = { state := s, pending := p, fn, tmps := a.tmps, params := ps, assign, body, defers := w.heap.size } := ⟨_, fun _ _ => rfl⟩
  have hs : ∀ s p, (R s p).state = s := fun s p => by rw [hR]
  obtain ⟨W1, e1⟩ : ∃ W1, W1 = (w.alloc (.deferred (some []))).alloc (.loop (R .ready none)) := ⟨_, rfl⟩
  have z1 : w.heap.size ≤ W1.heap.size := by rw [e1]; simp; omega
  have k1 : Kept w.heap.size (R .ready none) W1 := by
    rw [e1]
    refine ⟨?_, (Below.heap_alloc _ _ _ (by simp)).trans (World.alloc_heap_new w _)⟩
    have := World.alloc_heap_new (w.alloc (.deferred (some []))) (.loop (R .ready none))
    rwa [World.size_alloc] at this
  have i1 : I [] W1 := by rw [e1]; exact hI.alloc _ (hI.alloc _ h0)
  have b1 : Below w0.heap.size w0 W1 := by
    have : Below w.heap.size w W1 := by rw [e1]; exact ((Below.refl _ w).alloc (Nat.le_refl _) _).alloc (by simp) _
    exact hb0.trans (this.mono hb0.size)
  refine ⟨w.heap.size + 1, [{ target := .collected w.heap.size, args := #[] }], W1, { target := .fn (.func gf) lb, args := #[.func (.yield (w.heap.size + 1)) #[] #[]] }, W1, gf, #[.func (.yield (w.heap.size + 1)) #[] #[]] ++ lb, W1, ?_, ?_, fun f hf => trivial, ?_, fun _ => h1, ?_⟩
  · have := run_enterLoop_outer (P := P) (w := w) fn a.tmps ps assign body
    rw [e1, hR]; exact this
  · simp only [resolve, hg]
    simp [go_sem]
  · simp [invoke, go_sem, eg]
  · refine (hseq (w.heap.size + 1) (fun pre W => I pre W ∧ Kept w.heap.size (R .ready none) W) (fun pre W => ∃ c, Ix c pre W ∧ Kept w.heap.size (R .done (some c)) W) W1 b1
      (fun s A B row hs hg2 hr => ⟨hI s A B row hs.1 hg2 (fun k e => ?_), hs.2.cells hg2 (fun k e => (hr k e).2)⟩)
      (fun s A B row hs hg2 hr => ?_) (fun pre x W hok hJ => ?_) (fun pre W h => hM pre W h.1) ⟨i1, k1⟩).mono ?_
    · obtain ⟨h2, o, h3, h4⟩ := hr k e
      exact ⟨Nat.le_trans z1 h2, o, h3, Obj.not_cells_of_walk h4⟩
    · obtain ⟨c, hc, hk⟩ := hs
      refine ⟨c, hIx c s A B row hc hg2 (fun k e => ?_), hk.cells hg2 (fun k e => (hr k e).2)⟩
      obtain ⟨h2, o, h3, h4⟩ := hr k e
      exact ⟨Nat.le_trans z1 h2, o, h3, Obj.not_cells_of_walk h4⟩
    · obtain ⟨hi, hk⟩ := hJ
      have hy := run_yield (P := P) (args := encs x) hk.loop (by rw [hR]; exact hps x)
      have kb := hk.put (R .busy none)
      have bg := run_beginRound (P := P) hk.loop (hs _ _)
      rw [show ({ R .ready none with state := .busy } : Loop) = R .busy none by rw [hR, hR]] at bg
      have kk : Kp W (W.putObj (w.heap.size + 1) (.loop (R .busy none))) := hKb _ _ _ _ (by omega) hk.loop rfl rfl
      rw [hR] at hy
      refine ⟨fn, _, assign, body, hy, roundIn_of_wpIn hfn (hassign _ x W _ ⟨_, bg, ?_⟩)⟩
      refine wpIn_mono (hbody _ pre x _ hok (own_put hI hk (Nat.le_refl _) hi _)) ?_
      have fin : ∀ (j : Option Code) (W3 : World), Kept w.heap.size (R .busy none) W3 → (Instr.endRound (w.heap.size + 1) j).run P W3 = .ok (.bool j.isNone) (W3.putObj (w.heap.size + 1) (.loop (R (if j.isNone then .ready else .done) j))) := fun j W3 h3 => by
        have := run_endRound (P := P) j h3.loop
        rw [this, hR, hR]
      rintro e a3 W3 hp
      cases e with
      | normal =>
        obtain ⟨p1, p2, p3⟩ := hp
        have k3 := kb.from p1 (Nat.le_refl _)
        exact ⟨_, _, fin none W3 k3, .inl ⟨rfl, ⟨own_put hI k3 (Nat.le_refl _) p3 _, k3.put _⟩, hKt (hKt kk p2) (hKb _ _ _ _ (by omega) k3.loop rfl rfl)⟩⟩
      | ret =>
        have k3 := kb.from hp.1 (Nat.le_refl _)
        exact ⟨_, _, fin (some .ret) W3 k3, .inr ⟨rfl, .ret, own_put (hIx _) k3 (Nat.le_refl _) hp.2 _, k3.put _⟩⟩
      | exit id =>
        have k3 := kb.from hp.1 (Nat.le_refl _)
        exact ⟨_, _, fin (some (.exit id)) W3 k3, .inr ⟨rfl, .exit id, own_put (hIx _) k3 (Nat.le_refl _) hp.2 _, k3.put _⟩⟩
      | goto t =>
        have k3 := kb.from hp.1 (Nat.le_refl _)
        exact ⟨_, _, fin (some (.goto t)) W3 k3, .inr ⟨rfl, .goto t, own_put (hIx _) k3 (Nat.le_refl _) hp.2 _, k3.put _⟩⟩
      | panic ch => exact hp.elim
      | outgrown => exact hp.elim
    · have en : ∀ {s p W2}, Kept w.heap.size (R s p) W2 → s ≠ .busy → (Instr.endLoop (w.heap.size + 1)).run P W2 = .ok p (W2.putObj (w.heap.size + 1) (.loop (R .exhausted p))) := fun {s p W2} h2 hne => by
        have := run_endLoop (P := P) h2.loop (by rw [hs]; exact hne)
        rw [this, hR, hR]
      rintro e W2 ⟨⟨v, rfl⟩, ⟨xs, hS, hi, hk⟩ | ⟨pre, hSp, c, hi, hk⟩⟩
      · exact ⟨none, _, en hk (by simp), hdone _ xs _ (Nat.le_refl _) hS (own_put hI hk (Nat.le_refl _) hi _) (hk.put (R .exhausted none)).calls⟩
      · exact ⟨some c, _, en hk (by simp), hstop _ c pre _ (Nat.le_refl _) hSp (own_put (hIx c) hk (Nat.le_refl _) hi _) (hk.put (R .exhausted (some c))).calls⟩
end Go.Proofs.YtgphopkifomffaaGreatDoor
namespace Go.Proofs.YtgphopkifomffaaGreatDoor
open Go.RowKit Go.Shelf
open Go.Lib (decDigits nDigits)
set_option linter.unusedVariables false
set_option linter.unusedSimpArgs false
attribute [local go_sem] Oper.semAt_some
theorem bit_drop {b : ByteArray} (h : chkE b = 0) (p : Nat) : chkE (b.extract p b.size) = 0 ∧ (b.extract p b.size).data.toList = b.data.toList.drop p ∧ (b.extract p b.size).size ≤ 256 := by
  have hl : b.data.toList.length = b.size := list_size b
  have e : (b.extract p b.size).data.toList = b.data.toList.drop p := by
    rw [extract_list, List.take_of_length_le (by rw [List.length_drop]; omega)]
  unfold chkE at h
  split at h
  · rename_i hb
    split at h
    · cases h
    · rename_i h2
      have hs : (b.extract p b.size).size ≤ 256 := by
        have := list_size (b.extract p b.size)
        rw [e, List.length_drop] at this
        omega
      refine ⟨?_, e, hs⟩
      have hb2 : bitB (b.extract p b.size) = true := by
        unfold bitB at hb ⊢
        rw [e]
        rw [List.all_eq_true] at hb ⊢
        exact fun x hx => hb x (List.mem_of_mem_drop hx)
      rw [chkE, if_pos hb2, if_neg (by omega)]
  · cases h
set_option maxRecDepth 100000 in
set_option maxHeartbeats 2000000 in
theorem coins_feeds {Kp : World → World → Prop} (M n : Nat) (hn : 1 ≤ n) (w : World) (ba bb : Nat) (a b : ByteArray) (hKr : ∀ W, Kp W W) (hKt : ∀ {A B C : World}, Kp A B → Kp B C → Kp A C) (ha : a.size ≤ 100000) (hc : chkE b = 0) (he : cPE a = 0)
    (hread : ∀ W1 W2, Below w.heap.size w W1 → Kp W1 W2 → W2.cell? ⟨ba, 0, none⟩ = some (.string a) ∧ W2.cell? ⟨bb, 0, none⟩ = some (.string b) ∧ Lay W2) (hKb : ∀ W1 W2, Below W1.heap.size W1 W2 → Kp W1 W2) :
    FeedsB M n Tryz.prog 191 #[.pointer (some ⟨ba, 0, none⟩), .pointer (some ⟨bb, 0, none⟩)] (fun x : Nat × Nat => #[.int .i64 (x.1 : Int), .int .i64 (x.2 : Int)]) Kp
      (fun pre x => (coinF (bN (cW a)) (bN (qD a)) b.data.toList (posOf pre)).1 = true ∧ x = (posOf pre + (coinF (bN (cW a)) (bN (qD a)) b.data.toList (posOf pre)).2.2, (coinF (bN (cW a)) (bN (qD a)) b.data.toList (posOf pre)).2.1))
      (fun xs => (coinF (bN (cW a)) (bN (qD a)) b.data.toList (posOf xs)).1 = false) (fun _ => True) w := by
  intro l J Jx W hW hJ hJx hY hM h0
  have HR := hid hread; have HY := hid hY; have HW := hid hW; have HJ := hid hJ; have HJx := hid hJx; have HM := hid hM
  have HKr := hid hKr; have HKt : Hid (∀ A B C : World, Kp A B → Kp B C → Kp A C) := fun A B C h k => hKt h k
  have HKb := hid hKb
  have HC := hid hc; have HE := hid he; have HA := hid ha
  clear hread hY hW hJ hJx hKr hKt hM hKb hc he ha
  refine callsIn_of_wp Tryz.func191 rfl trivial ?_ rfl
  simp only [Tryz.ntmps191, List.size_toArray, List.length_cons, List.length_nil, Nat.reduceAdd, Nat.reduceSub, Array.replicate_succ, Array.replicate_zero, List.push_toArray, List.append_toArray, List.nil_append, List.cons_append]
  gi_wp2
  obtain ⟨RR, hRR⟩ : ∃ RR : Nat → Value → World → Prop, RR = fun k i wr => ∃ pre : List (Nat × Nat), i = .int .i64 (posOf pre : Nat) ∧ posOf pre ≤ b.size ∧ k + pre.length = M ∧ J pre wr ∧ Kp W wr := ⟨_, rfl⟩
  have HRR := hid hRR
  clear hRR
  gi_loopw [4, 5, 6] (fun i x5 x6 wr => ∃ k, RR k i wr) (fun i x5 x6 wr => leastOf (fun k => RR k i wr))
  case atStart => exact ⟨M, by rw [HRR.out]; exact ⟨[], rfl, Nat.zero_le _, by simp, h0, HKr.out W⟩⟩
  case round =>
    obtain ⟨hk, hmin⟩ := leastOf_spec hrel
    obtain ⟨k, hkk⟩ : ∃ k, leastOf (fun k => RR k u4 wr) = k := ⟨_, rfl⟩
    rw [hkk] at hk hmin
    rw [HRR.out] at hk
    obtain ⟨pre, rfl, hp, hlen, hJ, hK⟩ := hk
    obtain ⟨c0, c1, hLay⟩ := HR.out W wr HW.out hK
    obtain ⟨p, hpp⟩ : ∃ p, posOf pre = p := ⟨_, rfl⟩
    obtain ⟨q1, q2, q3⟩ := bit_drop HC.out p
    have q4 := fun V hV => hid (c_Draw_ok V a (b.extract p b.size) HA.out q3 q1 HE.out hV)
    rw [q2] at q4
    obtain ⟨x, hx⟩ : ∃ x, tossAt (bN (cW a)) (bN (qD a)) (b.data.toList.drop p) 0 1 0 = x := ⟨_, rfl⟩
    rw [hx] at q4
    have hxc : coinF (bN (cW a)) (bN (qD a)) b.data.toList p = x := hx
    have hle := coinF_le (N := bN (cW a)) (D := bN (qD a)) (l := b.data.toList) (p := p) (by rw [list_size, ← hpp]; exact hp)
    rw [hxc, list_size] at hle
    have HX := hid hxc; have HLE := hid hle; have HP := hid hpp; have HLEN := hid hlen; have HJw := hid hJ; have HK := hid hK; have HLay := hid hLay
    have HREL := hid hrel; have HKK := hid hkk
    rw [hpp] at hp ⊢ HREL
    have h0 : (0 : Int) ≤ (p : Int) := by omega
    have h1 : (p : Int) ≤ (b.size : Int) := by omega
    clear hx hxc hle hpp hlen hJ hK hLay q1 q2 q3 hmin hrel hkk hp
    obtain ⟨d, v, u⟩ := x
    simp only [drawV] at q4
    gi_wp2_with fail
    refine wpIn_wide.2 ?_
    refine held_plain [0, 1, 2, 3] 7 (fun W' => W'.cell? ⟨ba, 0, none⟩ = some (.string a) ∧ W'.cell? ⟨bb, 0, none⟩ = some (.string b)) (by kernel_rfl) (by kernel_rfl) (by kernel_rfl) (by kernel_rfl) ⟨c0, c1⟩ ?_
    iterate 4
      refine ⟨_, rfl, ?_⟩
      apply Exists.intro
      refine ⟨.inl ⟨by rfl, ?_⟩, ?_⟩
      · (intro W' hW'
         obtain ⟨q1, q2⟩ := hW'
         go_simp
         try (with_reducible rfl))
      (dsimp only [Act.put]; try simp only [List.setIfInBounds_toArray, List.set_cons_zero, List.set_cons_succ])
    refine held_two (i := 4) (j := 8) (by kernel_rfl) (by rfl) (by rfl) (by rfl) (by rfl) ?_ ?_
    · go_wp2_with fail
      refine (q4 _ (HLay.out.call (Below.refl _ _).drew)).out.mono ?_; rintro e w1 ⟨rfl, hb1⟩
      have y1 := hid (show Below wr.heap.size wr w1 from (Below.refl _ _).drew.trans hb1)
      have s0 := (y1.out.cell (cell_lt c0)).trans c0
      have s1 := (y1.out.cell (cell_lt c1)).trans c1
      clear hb1
      go_wp2_with fail
      refine ⟨⟨s0, s1⟩, ?_⟩
      refine held_more (is := [5, 6, 7]) (g := 3) (by kernel_rfl) rfl ⟨s0, s1⟩ (by kernel_rfl) ?_
      iterate 3
        refine ⟨_, rfl, ?_⟩
        apply Exists.intro
        refine ⟨.inl ⟨by rfl, ?_⟩, ?_⟩
        · (intro W' hW'
           clear hW'
           go_simp
           try (with_reducible rfl))
        (dsimp only [Act.put]; try simp only [List.setIfInBounds_toArray, List.set_cons_zero, List.set_cons_succ])
      refine held_one (i := 8) (by kernel_rfl) (by rfl) (by rfl) ?_
      go_wp2_with fail
      have s2 := ((Below.refl w1.heap.size w1).alloc (Nat.le_refl _) (.cells #[.bool false, .int .i64 0, .int .i64 0] 53))
      have s3 := (s2.cell (cell_lt s0)).trans s0
      have s4 := (s2.cell (cell_lt s1)).trans s1
      refine ⟨⟨s3, s4⟩, ?_⟩
      refine held_one (i := 9) (by kernel_rfl) (by rfl) (by rfl) ?_
      have bk := Blk.new w1 #[.bool false, .int .i64 0, .int .i64 0] 53
      have r0 : (w1.alloc (.cells #[.bool false, .int .i64 0, .int .i64 0] 53)).cell? ⟨w1.heap.size, 0, none⟩ = some (.bool false) := bk.cell 0
      have r1 : (w1.alloc (.cells #[.bool false, .int .i64 0, .int .i64 0] 53)).cell? ⟨w1.heap.size, 1, none⟩ = some (.int .i64 0) := bk.cell 1
      have r2 : (w1.alloc (.cells #[.bool false, .int .i64 0, .int .i64 0] 53)).cell? ⟨w1.heap.size, 2, none⟩ = some (.int .i64 0) := bk.cell 2
      have f0 := bk.free 0
      have f1 := bk.free 1
      have f2 := bk.free 2
      obtain ⟨dB, hdB⟩ : ∃ n, w1.heap.size = n := ⟨_, rfl⟩
      have HDB := hid hdB
      have LT0 := hid (cell_lt s0); have LT1 := hid (cell_lt s1)
      obtain ⟨w2, hw2⟩ : ∃ w2, w1.alloc (.cells #[.bool false, .int .i64 0, .int .i64 0] 53) = w2 := ⟨_, rfl⟩
      rw [hw2] at s3 s4 bk r0 r1 r2 f0 f1 f2 ⊢
      rw [hw2] at s2
      rw [hdB] at bk r0 r1 r2 f0 f1 f2 s2 LT0 LT1 ⊢
      have BK := hid bk
      have y2 := hid (y1.out.trans (s2.mono (by have := y1.out.size; omega)))
      clear s0 s1 s2 hdB hw2 bk
      go_wp2_with fail
      have bk3 : Blk (((w2.setCell ⟨dB, 0, none⟩ (.bool d)).setCell ⟨dB, 1, none⟩ (.int .i64 (v : Nat))).setCell ⟨dB, 2, none⟩ (.int .i64 (u : Nat))) dB #[.bool d, .int .i64 (v : Nat), .int .i64 (u : Nat)] 53 := by
        have := ((BK.out.set 0 (.bool d)).set 1 (.int .i64 (v : Nat))).set 2 (.int .i64 (u : Nat))
        simpa using this
      have y3 : Below wr.heap.size wr (((w2.setCell ⟨dB, 0, none⟩ (.bool d)).setCell ⟨dB, 1, none⟩ (.int .i64 (v : Nat))).setCell ⟨dB, 2, none⟩ (.int .i64 (u : Nat))) :=
        have hge : wr.heap.size ≤ dB := by rw [← HDB.out]; exact y1.out.size
        ((y2.out.setCell hge _).setCell hge _).setCell hge _
      obtain ⟨V, hV⟩ : ∃ V, ((w2.setCell ⟨dB, 0, none⟩ (.bool d)).setCell ⟨dB, 1, none⟩ (.int .i64 (v : Nat))).setCell ⟨dB, 2, none⟩ (.int .i64 (u : Nat)) = V := ⟨_, rfl⟩
      rw [hV] at bk3 y3 ⊢
      have s5 := (y3.cell (cell_lt c0)).trans c0
      have s6 := (y3.cell (cell_lt c1)).trans c1
      have BV := hid bk3; have YV := hid y3
      clear hV bk3 y3 r0 r1 r2 f0 f1 f2 s3 s4
      refine ⟨⟨s5, s6⟩, ?_⟩
      refine held_one (i := 10) (by kernel_rfl) (by rfl) (by rfl) ?_
      go_wp2_with fail
      refine ⟨⟨s5, s6⟩, ?_⟩
      refine wpAnyH_done (by kernel_rfl) ?_ _
      simp only [Only]
      have e0 : V.cell? ⟨dB, 0, none⟩ = some (.bool d) := BV.out.cell 0
      have e1 : V.cell? ⟨dB, 1, none⟩ = some (.int .i64 (v : Nat)) := BV.out.cell 1
      have e2 : V.cell? ⟨dB, 2, none⟩ = some (.int .i64 (u : Nat)) := BV.out.cell 2
      have ew : IntKind.i64.wrap ((p : Int) + (u : Nat)) = ((p + u : Nat) : Int) := by
        have h2 := HLE.out
        have h3 := (bit_drop HC.out 0).2.2
        have h4 : b.size ≤ 256 := by
          have h5 := (bit_drop HC.out 0).2.1
          have h6 := list_size (b.extract 0 b.size)
          rw [h5, List.drop_zero, list_size] at h6
          omega
        rw [IntWalk.i64_in _ ⟨by omega, by omega⟩]
        omega
      clear s5 s6
      have hJV : J pre V := HJ.out pre wr V none HJw.out ⟨YV.out.os, YV.out.tape, YV.out.output, YV.out.size, fun k hk _ => YV.out.block k hk⟩ (fun r e => by cases e)
      have hKV : Kp W V := HKt.out _ _ _ HK.out (HKb.out _ _ YV.out)
      have HJV := hid hJV; have HKV := hid hKV
      clear hJV hKV
      cases d
      · gi_wp2_with fail
        refine ⟨fun f hf => (by cases hf), ?_⟩
        gi_wp2_with fail
        refine bodyPost_ret (results_none rfl _ _ _) rfl ?_
        exact ⟨⟨_, rfl⟩, .inl ⟨pre, by rw [HP.out, HX.out], HJV.out⟩⟩
      · obtain ⟨fn, tmps, assign, body, hy, hR⟩ := HY.out pre (p + u, v) V ⟨by rw [HP.out, HX.out], by rw [HP.out, HX.out]⟩ HJV.out
        dsimp only at hy
        rw [Int.natCast_add] at hy
        have HYR := hid hR
        gi_wp2_with fail
        refine HYR.out.mono ?_
        rintro e W3 (⟨rfl, hJ3, hk3⟩ | ⟨rfl, hJx3⟩)
        · have hM3 := HM.out _ _ hJ3
          rw [List.length_append, List.length_singleton] at hM3
          have RN := hid (show RR (k - 1) (.int .i64 ((p : Int) + (u : Nat))) W3 from by
            rw [HRR.out]
            refine ⟨pre ++ [(p + u, v)], by rw [posOf_snoc, Int.natCast_add], by rw [posOf_snoc]; exact HLE.out, ?_, hJ3, HKt.out _ _ _ HKV.out hk3⟩
            rw [List.length_append, List.length_singleton]
            have := HLEN.out
            omega)
          have HK1 := hid (show 1 ≤ k from by have := HLEN.out; omega)
          clear hJ3 hk3 hM3 hy hR
          gi_wp2_with fail
          go_roundw
          case rel => exact ⟨_, RN.out⟩
          case measure =>
            have h1 := (leastOf_spec (p := fun k => RR k (.int .i64 ((p : Int) + (u : Nat))) W3) ⟨_, RN.out⟩).2 _ RN.out
            have h2 := HKK.out
            rw [HP.out] at h2
            have h3 := HK1.out
            show leastOf (fun k => RR k (.int .i64 ((p : Int) + (u : Nat))) W3) < leastOf (fun k => RR k (.int .i64 (p : Nat)) wr)
            rw [h2]
            omega
        · clear hy hR
          gi_wp2_with fail
          refine bodyPost_ret (results_none rfl _ _ _) rfl ?_
          exact ⟨⟨_, rfl⟩, .inr ⟨_, trivial, hJx3⟩⟩
    · go_wp2_with fail
      have b0 : Blk (wr.alloc (.cells #[.bool false, .int .i64 0, .int .i64 0] 53)).drew wr.heap.size #[.bool false, .int .i64 0, .int .i64 0] 53 := Blk.new wr #[.bool false, .int .i64 0, .int .i64 0] 53
      have a0 : Below wr.heap.size wr (wr.alloc (.cells #[.bool false, .int .i64 0, .int .i64 0] 53)).drew := ((Below.refl _ _).alloc (Nat.le_refl _) _).drew
      obtain ⟨dB, hdB⟩ : ∃ n, wr.heap.size = n := ⟨_, rfl⟩
      have HDB := hid hdB
      obtain ⟨w1, hw1⟩ : ∃ w1, (wr.alloc (.cells #[.bool false, .int .i64 0, .int .i64 0] 53)).drew = w1 := ⟨_, rfl⟩
      rw [hw1] at b0 a0 ⊢
      rw [hdB] at b0 ⊢
      have A0 := hid a0; have BB0 := hid b0
      have s0 := (a0.cell (cell_lt c0)).trans c0
      have s1 := (a0.cell (cell_lt c1)).trans c1
      clear hw1 hdB a0 b0
      refine ⟨⟨s0, s1⟩, ?_⟩
      refine held_one (i := 4) (by kernel_rfl) (by rfl) (by rfl) ?_
      go_wp2_with fail
      refine (q4 _ (HLay.out.call A0.out)).out.mono ?_; rintro e w2 ⟨rfl, hb2⟩
      have y2 := hid (A0.out.trans (hb2.mono A0.out.size))
      have BK := hid (BB0.out.call hb2)
      have s3 := (y2.out.cell (cell_lt c0)).trans c0
      have s4 := (y2.out.cell (cell_lt c1)).trans c1
      clear hb2 s0 s1
      go_wp2_with fail
      refine ⟨⟨s3, s4⟩, ?_⟩
      refine held_more (is := [5, 6, 7]) (g := 2) (by kernel_rfl) rfl ⟨s3, s4⟩ (by kernel_rfl) ?_
      iterate 3
        refine ⟨_, rfl, ?_⟩
        apply Exists.intro
        refine ⟨.inl ⟨by rfl, ?_⟩, ?_⟩
        · (intro W' hW'
           clear hW'
           go_simp
           try (with_reducible rfl))
        (dsimp only [Act.put]; try simp only [List.setIfInBounds_toArray, List.set_cons_zero, List.set_cons_succ])
      have r0 : w2.cell? ⟨dB, 0, none⟩ = some (.bool false) := BK.out.cell 0
      have r1 : w2.cell? ⟨dB, 1, none⟩ = some (.int .i64 0) := BK.out.cell 1
      have r2 : w2.cell? ⟨dB, 2, none⟩ = some (.int .i64 0) := BK.out.cell 2
      have f0 := BK.out.free 0
      have f1 := BK.out.free 1
      have f2 := BK.out.free 2
      refine held_one (i := 9) (by kernel_rfl) (by rfl) (by rfl) ?_
      go_wp2_with fail
      have bk3 : Blk (((w2.setCell ⟨dB, 0, none⟩ (.bool d)).setCell ⟨dB, 1, none⟩ (.int .i64 (v : Nat))).setCell ⟨dB, 2, none⟩ (.int .i64 (u : Nat))) dB #[.bool d, .int .i64 (v : Nat), .int .i64 (u : Nat)] 53 := by
        have := ((BK.out.set 0 (.bool d)).set 1 (.int .i64 (v : Nat))).set 2 (.int .i64 (u : Nat))
        simpa using this
      have y3 : Below wr.heap.size wr (((w2.setCell ⟨dB, 0, none⟩ (.bool d)).setCell ⟨dB, 1, none⟩ (.int .i64 (v : Nat))).setCell ⟨dB, 2, none⟩ (.int .i64 (u : Nat))) :=
        have hge : wr.heap.size ≤ dB := by rw [← HDB.out]; exact Nat.le_refl _
        ((y2.out.setCell hge _).setCell hge _).setCell hge _
      obtain ⟨V, hV⟩ : ∃ V, ((w2.setCell ⟨dB, 0, none⟩ (.bool d)).setCell ⟨dB, 1, none⟩ (.int .i64 (v : Nat))).setCell ⟨dB, 2, none⟩ (.int .i64 (u : Nat)) = V := ⟨_, rfl⟩
      rw [hV] at bk3 y3 ⊢
      have s5 := (y3.cell (cell_lt c0)).trans c0
      have s6 := (y3.cell (cell_lt c1)).trans c1
      have BV := hid bk3; have YV := hid y3
      clear hV bk3 y3 r0 r1 r2 f0 f1 f2 s3 s4
      refine ⟨⟨s5, s6⟩, ?_⟩
      refine held_one (i := 10) (by kernel_rfl) (by rfl) (by rfl) ?_
      go_wp2_with fail
      refine ⟨⟨s5, s6⟩, ?_⟩
      refine wpAnyH_done (by kernel_rfl) ?_ _
      simp only [Only]
      have e0 : V.cell? ⟨dB, 0, none⟩ = some (.bool d) := BV.out.cell 0
      have e1 : V.cell? ⟨dB, 1, none⟩ = some (.int .i64 (v : Nat)) := BV.out.cell 1
      have e2 : V.cell? ⟨dB, 2, none⟩ = some (.int .i64 (u : Nat)) := BV.out.cell 2
      have ew : IntKind.i64.wrap ((p : Int) + (u : Nat)) = ((p + u : Nat) : Int) := by
        have h2 := HLE.out
        have h3 := (bit_drop HC.out 0).2.2
        have h4 : b.size ≤ 256 := by
          have h5 := (bit_drop HC.out 0).2.1
          have h6 := list_size (b.extract 0 b.size)
          rw [h5, List.drop_zero, list_size] at h6
          omega
        rw [IntWalk.i64_in _ ⟨by omega, by omega⟩]
        omega
      clear s5 s6
      have hJV : J pre V := HJ.out pre wr V none HJw.out ⟨YV.out.os, YV.out.tape, YV.out.output, YV.out.size, fun k hk _ => YV.out.block k hk⟩ (fun r e => by cases e)
      have hKV : Kp W V := HKt.out _ _ _ HK.out (HKb.out _ _ YV.out)
      have HJV := hid hJV; have HKV := hid hKV
      clear hJV hKV
      cases d
      · gi_wp2_with fail
        refine ⟨fun f hf => (by cases hf), ?_⟩
        gi_wp2_with fail
        refine bodyPost_ret (results_none rfl _ _ _) rfl ?_
        exact ⟨⟨_, rfl⟩, .inl ⟨pre, by rw [HP.out, HX.out], HJV.out⟩⟩
      · obtain ⟨fn, tmps, assign, body, hy, hR⟩ := HY.out pre (p + u, v) V ⟨by rw [HP.out, HX.out], by rw [HP.out, HX.out]⟩ HJV.out
        dsimp only at hy
        rw [Int.natCast_add] at hy
        have HYR := hid hR
        gi_wp2_with fail
        refine HYR.out.mono ?_
        rintro e W3 (⟨rfl, hJ3, hk3⟩ | ⟨rfl, hJx3⟩)
        · have hM3 := HM.out _ _ hJ3
          rw [List.length_append, List.length_singleton] at hM3
          have RN := hid (show RR (k - 1) (.int .i64 ((p : Int) + (u : Nat))) W3 from by
            rw [HRR.out]
            refine ⟨pre ++ [(p + u, v)], by rw [posOf_snoc, Int.natCast_add], by rw [posOf_snoc]; exact HLE.out, ?_, hJ3, HKt.out _ _ _ HKV.out hk3⟩
            rw [List.length_append, List.length_singleton]
            have := HLEN.out
            omega)
          have HK1 := hid (show 1 ≤ k from by have := HLEN.out; omega)
          clear hJ3 hk3 hM3 hy hR
          gi_wp2_with fail
          go_roundw
          case rel => exact ⟨_, RN.out⟩
          case measure =>
            have h1 := (leastOf_spec (p := fun k => RR k (.int .i64 ((p : Int) + (u : Nat))) W3) ⟨_, RN.out⟩).2 _ RN.out
            have h2 := HKK.out
            rw [HP.out] at h2
            have h3 := HK1.out
            show leastOf (fun k => RR k (.int .i64 ((p : Int) + (u : Nat))) W3) < leastOf (fun k => RR k (.int .i64 (p : Nat)) wr)
            rw [h2]
            omega
        · clear hy hR
          gi_wp2_with fail
          refine bodyPost_ret (results_none rfl _ _ _) rfl ?_
          exact ⟨⟨_, rfl⟩, .inr ⟨_, trivial, hJx3⟩⟩
end Go.Proofs.YtgphopkifomffaaGreatDoor
namespace Go.Proofs.YtgphopkifomffaaGreatDoor
open Go.RowKit Go.Shelf
open Go.Lib (decDigits nDigits)
set_option linter.unusedVariables false
set_option linter.unusedSimpArgs false
attribute [local go_sem] Oper.semAt_some
structure KpS (n0 b1 b2 : Nat) (W W' : World) : Prop where
  size : W.heap.size ≤ W'.heap.size
  rest : n0 ≤ W.heap.size → b1 < W.heap.size → b2 < W.heap.size → Below n0 W W' ∧ W'.heap[b1]? = W.heap[b1]? ∧ W'.heap[b2]? = W.heap[b2]?
theorem KpS.refl (n0 b1 b2 : Nat) (W : World) : KpS n0 b1 b2 W W := ⟨Nat.le_refl _, fun _ _ _ => ⟨Below.refl _ _, rfl, rfl⟩⟩
theorem KpS.trans {n0 b1 b2 : Nat} {A B C : World} (h : KpS n0 b1 b2 A B) (k : KpS n0 b1 b2 B C) : KpS n0 b1 b2 A C :=
  ⟨Nat.le_trans h.size k.size, fun h1 h2 h3 => by
    obtain ⟨x, y, z⟩ := h.rest h1 h2 h3
    obtain ⟨x', y', z'⟩ := k.rest (Nat.le_trans h1 h.size) (Nat.lt_of_lt_of_le h2 h.size) (Nat.lt_of_lt_of_le h3 h.size)
    exact ⟨x.trans x', y'.trans y, z'.trans z⟩⟩
theorem KpS.of_below {n0 b1 b2 : Nat} {W W' : World} (h : Below W.heap.size W W') : KpS n0 b1 b2 W W' := ⟨h.size, fun h1 h2 h3 => ⟨h.mono h1, h.block _ h2, h.block _ h3⟩⟩
theorem KpS.put {n0 b1 b2 : Nat} {w : World} (h1 : n0 ≤ w.heap.size) (h2 : b1 < w.heap.size) (h3 : b2 < w.heap.size) (W : World) (l : Nat) (o o' : Obj) (hl : w.heap.size ≤ l) (h : W.heap[l]? = some o) (hc : o.isCells = false) (hw : o.isWalk = false) : KpS n0 b1 b2 W (W.putObj l o') := by
  have hs : W.heap.size ≤ (W.putObj l o').heap.size := by simp [World.putObj]
  refine ⟨hs, fun _ _ _ => ⟨?_, ?_, ?_⟩⟩
  · exact ⟨rfl, rfl, rfl, hs, fun k hk => World.putObj_heap_other (by omega)⟩
  · exact World.putObj_heap_other (by omega)
  · exact World.putObj_heap_other (by omega)
def SerI (B many N D : Nat) (l : List UInt8) (pre : List (Nat × Nat)) (W : World) : Prop := ∃ m vs n v, 1 ≤ m ∧ vs.length + m = many ∧ sr N D l many 0 [] 0 = sr N D l m (posOf pre) vs n ∧ posOf pre ≤ l.length ∧
  pre.length + (l.length - posOf pre + m) ≤ l.length + many ∧ n ≤ pre.length ∧ Boxed W (B + 1) 24 v ∧ W.ownsRow B 3 1 v (vs.length + 1) (ints .i64 (vs ++ [n]))
theorem SerI.own {B C many N D : Nat} {l : List UInt8} : OwnFrom C (SerI B many N D l) := by
  rintro s X Y row ⟨m, vs, n, v, h1, h2, h3, h4, h5, h6, hv, hr⟩ hg hrow
  refine ⟨m, vs, n, v, h1, h2, h3, h4, h5, h6, hv.kept hg (fun e' => ?_), hr.kept hg ?_⟩
  · obtain ⟨-, o, ho, hc⟩ := hrow _ e'.symm
    rw [show X.heap[B + 1]? = _ from hv] at ho; cases ho; cases hc
  · rcases hr.2 with ⟨rfl, _⟩ | ⟨g, cap, cur, rfl, _, hgb, _⟩
    · exact .inl rfl
    · refine .inr fun e' => ?_
      obtain ⟨-, o, ho, hc⟩ := hrow g (by simpa [Value.ownBlock] using e'.symm)
      rw [hgb] at ho; cases ho; cases hc
def SerX (A B many N D : Nat) (l : List UInt8) (W : World) : Prop := ∃ vs x v, sr N D l many 0 [] 0 = some (vs, x) ∧ vs.length = many ∧ Blk W (A + 1) #[v] 24 ∧ Blk W (A + 1 + 1) #[.int .i64 (x : Nat)] 3 ∧ Blk W (A + 1 + 1 + 1) #[.bool true] 4 ∧ W.ownsRow B 3 1 v vs.length (ints .i64 vs)
theorem SerX.keptX {A B many N D : Nat} {l : List UInt8} {X Y : World} {row : Option Nat} (h : SerX A B many N D l X) (hg : X.grownBy Y row) (hrow : ∀ r, row = some r → ∃ o : Obj, X.heap[r]? = some o ∧ o.isCells = false) : SerX A B many N D l Y := by
  obtain ⟨vs, x, v, h1, h2, h3, h4, h5, hr⟩ := h
  refine ⟨vs, x, v, h1, h2, h3.kept hg hrow, h4.kept hg hrow, h5.kept hg hrow, hr.kept hg ?_⟩
  rcases hr.2 with ⟨rfl, _⟩ | ⟨g, cap, cur, rfl, _, hgb, _⟩
  · exact .inl rfl
  · refine .inr fun e' => ?_
    obtain ⟨o, ho, hc⟩ := hrow g (by simpa [Value.ownBlock] using e'.symm)
    rw [hgb] at ho; cases ho; cases hc
def SerOut (r : Option (List Nat × Nat)) (e : Ending) (w' : World) : Prop := match r with
  | none => e = .returned (.tuple #[.slice none 0 0, .int .i64 0, .bool false])
  | some (vs, x) => ∃ v, e = .returned (.tuple #[v, .int .i64 (x : Nat), .bool true]) ∧ Row w' v (ints .i64 vs)
set_option maxRecDepth 100000 in
set_option maxHeartbeats 4000000 in
theorem g_series (w : World) (a b : ByteArray) (many : Nat) (h1 : 1 ≤ many) (h2 : many ≤ 1000) (ha : a.size ≤ 100000) (hc : chkE b = 0) (he : cPE a = 0) (hND : bN (cW a) < bN (qD a)) (hL : Lay w) :
    Calls Tryz.prog 91 #[.string a, .string b, .int .i64 (many : Nat)] w fun e w' => SerOut (sr (bN (cW a)) (bN (qD a)) b.data.toList many 0 [] 0) e w' ∧ Below w.heap.size w w' := by
  have HL := hid hL; have HC := hid hc; have HE := hid he; have HND := hid hND; have H1 := hid h1; have H2 := hid h2; have HA := hid ha
  have hbs : b.size ≤ 256 := by
    have h5 := (bit_drop hc 0).2.1
    have h6 := list_size (b.extract 0 b.size)
    have h7 := (bit_drop hc 0).2.2
    rw [h5, List.drop_zero, list_size] at h6
    omega
  have HBS := hid hbs
  clear hL hc he hND ha hbs
  obtain ⟨N, hN⟩ : ∃ N, bN (cW a) = N := ⟨_, rfl⟩
  obtain ⟨D, hD⟩ : ∃ N, bN (qD a) = N := ⟨_, rfl⟩
  have HN := hid hN; have HD := hid hD
  rw [hN, hD] at HND ⊢
  clear hN hD
  obtain ⟨L, hL⟩ : ∃ L, b.data.toList = L := ⟨_, rfl⟩
  have HLL := hid (show L.length = b.size from by rw [← hL]; exact list_size b)
  have HLQ := hid hL
  rw [hL]
  clear hL
  refine (callsIn_wide (n := 9)).1 ?_
  refine callsIn_of_wp_marks Tryz.func91 rfl trivial ?_ rfl
  simp only [Tryz.ntmps91, List.size_toArray, List.length_cons, List.length_nil, Nat.reduceAdd, Nat.reduceSub, Array.replicate_succ, Array.replicate_zero, List.push_toArray, List.append_toArray, List.nil_append, List.cons_append]
  gi_wp2_with fail
  refine wpIn_scope ?_
  gi_wp2_with fail
  refine wpIn_label ?_
  gi_wp2_with (refine ⟨trivial, ?_⟩; gi_at_call 136; refine (callsIn_wide.2 (g_coins _ _ _)).mono ?_; rintro e w' ⟨rfl, rfl⟩)
  obtain ⟨i0, hi, hz0, hz1, hz2⟩ := info_parts info_i64
  obtain ⟨W0, hW0⟩ : ∃ W0, (((((((w.alloc (.cells #[.int .i64 (many : Nat)] 3)).alloc (.cells #[.slice none 0 0] 24)).alloc (.cells #[.int .i64 0] 3)).alloc (.cells #[.bool false] 4)).alloc (.cells #[.int .i64 0] 3)).alloc
    (.cells #[.slice (some ⟨w.heap.size + 1 + 1 + 1 + 1, 0, none⟩) 1 1] 24)).alloc (.cells #[.string a] 22)).alloc (.cells #[.string b] 34) = W0 := ⟨_, rfl⟩
  have y0 : Blk W0 w.heap.size #[.int .i64 (many : Nat)] 3 := by rw [← hW0]; exact (((((((Blk.new w _ _).alloc _).alloc _).alloc _).alloc _).alloc _).alloc _).alloc _
  have y1 : Blk W0 (w.heap.size + 1) #[.slice none 0 0] 24 := by rw [← hW0]; exact ((((((Blk.made _ _ _ (by simp)).alloc _).alloc _).alloc _).alloc _).alloc _).alloc _
  have y2 : Blk W0 (w.heap.size + 1 + 1) #[.int .i64 0] 3 := by rw [← hW0]; exact (((((Blk.made _ _ _ (by simp)).alloc _).alloc _).alloc _).alloc _).alloc _
  have y3 : Blk W0 (w.heap.size + 1 + 1 + 1) #[.bool false] 4 := by rw [← hW0]; exact ((((Blk.made _ _ _ (by simp)).alloc _).alloc _).alloc _).alloc _
  have y4 : Blk W0 (w.heap.size + 1 + 1 + 1 + 1) #[.int .i64 0] 3 := by rw [← hW0]; exact (((Blk.made _ _ _ (by simp)).alloc _).alloc _).alloc _
  have y5 : Blk W0 (w.heap.size + 1 + 1 + 1 + 1 + 1) #[.slice (some ⟨w.heap.size + 1 + 1 + 1 + 1, 0, none⟩) 1 1] 24 := by rw [← hW0]; exact ((Blk.made _ _ _ (by simp)).alloc _).alloc _
  have y6 : Blk W0 (w.heap.size + 1 + 1 + 1 + 1 + 1 + 1) #[.string a] 22 := by rw [← hW0]; exact (Blk.made _ _ _ (by simp)).alloc _
  have y7 : Blk W0 (w.heap.size + 1 + 1 + 1 + 1 + 1 + 1 + 1) #[.string b] 34 := by rw [← hW0]; exact Blk.made _ _ _ (by simp)
  have b0 : Below w.heap.size w W0 := by
    rw [← hW0]
    exact ((((((((Below.refl _ _).alloc (Nat.le_refl _) _).alloc (by simp) _).alloc (by simp <;> omega) _).alloc (by simp <;> omega) _).alloc (by simp <;> omega) _).alloc (by simp <;> omega) _).alloc (by simp <;> omega) _).alloc (by simp <;> omega) _
  have z0 : W0.heap.size = w.heap.size + 1 + 1 + 1 + 1 + 1 + 1 + 1 + 1 := by rw [← hW0]; simp
  rw [hW0]
  have Y0 := hid y0; have Y1 := hid y1; have Y2 := hid y2; have Y3 := hid y3; have Y4 := hid y4; have Y5 := hid y5; have Y6 := hid y6; have Y7 := hid y7; have HB0 := hid b0; have Z0 := hid z0
  clear y0 y1 y2 y3 y4 y5 y6 y7 b0 z0 hW0
  obtain ⟨B, hB⟩ : ∃ B, w.heap.size + 1 + 1 + 1 + 1 = B := ⟨_, rfl⟩
  rw [hB] at Y4 Y5 Y6 Y7 Z0 ⊢
  have HBB := hid hB
  clear hB
  have hread : ∀ W1 W2, Below W0.heap.size W0 W1 → KpS B (B + 1 + 1) (B + 1 + 1 + 1) W1 W2 → W2.cell? ⟨B + 1 + 1, 0, none⟩ = some (.string a) ∧ W2.cell? ⟨B + 1 + 1 + 1, 0, none⟩ = some (.string b) ∧ Lay W2 := fun W1 W2 b1 b2 => by
    have hs := b1.size
    have hz := Z0.out
    obtain ⟨r1, r2, r3⟩ := b2.rest (by omega) (by omega) (by omega)
    have g1 : Blk W2 (B + 1 + 1) #[.string a] 22 := r2.trans (Y6.out.call b1)
    have g2 : Blk W2 (B + 1 + 1 + 1) #[.string b] 34 := r3.trans (Y7.out.call b1)
    refine ⟨g1.cell 0, g2.cell 0, HL.out.call ?_⟩
    have hb := HBB.out
    exact (HB0.out.trans (b1.mono (by omega))).trans (r1.mono (by omega))
  refine range_okB (by omega) (gf := 191) (lb := #[.pointer (some ⟨B + 1 + 1, 0, none⟩), .pointer (some ⟨B + 1 + 1 + 1, 0, none⟩)]) rfl (enters_of Tryz.func191 (by kernel_rfl) rfl)
    (coins_feeds (Kp := KpS B (B + 1 + 1) (B + 1 + 1 + 1)) (L.length + many) 8 (by omega) W0 _ _ a b (KpS.refl _ _ _) KpS.trans HA.out HC.out HE.out hread (fun _ _ => KpS.of_below)) KpS.trans (KpS.put (by have := Z0.out; omega) (by have := Z0.out; omega) (by have := Z0.out; omega)) (Below.refl _ _) (fun _ => rfl)
    (fun pre W => (SerI B many N D L pre W ∧ Blk W (B + 1 + 1) #[.string a] 22 ∧ Blk W (B + 1 + 1 + 1) #[.string b] 34) ∧ Below B W0 W)
    (fun c pre W => (c = .ret ∧ SerX w.heap.size B many N D L W) ∧ Below w.heap.size w W)
    (OwnFrom.and (fun s X Y row hs hg hr => ⟨SerI.own s X Y row hs.1 hg hr, hs.2.1.kept hg (fun r e => (hr r e).2), hs.2.2.kept hg (fun r e => (hr r e).2)⟩) (ownFrom_below (by have := Z0.out; omega) (by have := Z0.out; omega)))
    (fun c => OwnFrom.and (fun s X Y row hs hg hr => ⟨hs.1, hs.2.keptX hg (fun r e => (hr r e).2)⟩) (ownFrom_below (Nat.le_refl _) (by have := Z0.out; have := HBB.out; omega)))
    ⟨⟨⟨many, [], 0, _, H1.out, by simp, rfl, Nat.zero_le _, by simp [posOf_nil], Nat.zero_le _, Y5.out, owns_one Y4.out⟩, Y6.out, Y7.out⟩, Below.refl _ _⟩
    (fun pre W h => by obtain ⟨m, vs, n, v, _, _, _, _, h5, _⟩ := h.1.1; omega) ?act ?assign ?body ?done ?stop
  case assign =>
    intro l x W K hK
    gi_wp2
    exact hK
  case body =>
    rintro l pre ⟨q, val⟩ W ⟨hd, hx⟩ ⟨⟨⟨m, vs, n, v, i1, i2, i3, i4, i5, i6, hv, hr⟩, ha6, hb7⟩, hB⟩
    rw [HN.out, HD.out, HLQ.out] at hd hx
    obtain ⟨p, hp⟩ : ∃ p, posOf pre = p := ⟨_, rfl⟩
    rw [hp] at hd hx i3 i4 i5
    have hle := coinF_le (N := N) (D := D) i4
    have hval : (coinF N D L p).2.1 ≤ 1 := by rw [coinF_eq]; exact toss_val _ _ _ _ _
    simp only [Prod.mk.injEq] at hx
    obtain ⟨hq, hvv⟩ := hx
    obtain ⟨g, cap, rfl⟩ := ownsRow_succ hr
    obtain ⟨k, hk⟩ : ∃ k, vs.length = k := ⟨_, rfl⟩
    rw [hk] at hr i2 hv
    obtain ⟨o1, o2, o3, o4, o5, o6, o7⟩ := own_slot hr
    have c0 : W.cell? ⟨g, k, none⟩ = some (.int .i64 (n : Nat)) := o4 k _ (by rw [ints_append, List.getElem?_append_right (by rw [ints_length]; omega), ints_length, hk, Nat.sub_self]; rfl)
    have c1 : W.cell? ⟨B + 1, 0, none⟩ = some (.slice (some ⟨g, 0, none⟩) (k + 1) cap) := Blk.cell hv 0
    have c2 : W.frozen? ⟨B + 1, 0, none⟩ = false := Blk.free hv 0
    have c3 : W.cell? ⟨w.heap.size, 0, none⟩ = some (.int .i64 (many : Nat)) := (Y0.out.below hB (by have := HBB.out; omega)).cell 0
    have r1 := Y1.out.below hB (by have := HBB.out; omega)
    have r2 := Y2.out.below hB (by have := HBB.out; omega)
    have r3 := Y3.out.below hB (by have := HBB.out; omega)
    have c4 := r1.cell 0
    have c5 := r2.cell 0
    have c6 := r3.cell 0
    have c7 := r1.free 0
    have c8 := r2.free 0
    have c9 := r3.free 0
    have d0 := o3 k
    simp at c4 c5 c6
    have hkm : k < 1000 := by have := H2.out; omega
    have hn : n < 3000 := by have h2 := H2.out; have h3 := HBS.out; have h4 := HLL.out; omega
    have w1 : IntKind.i64.wrap (((k + 1 : Nat) : Int) - 1) = (k : Int) := by rw [IntWalk.i64_in _ ⟨by omega, by omega⟩]; omega
    have w2 : IntKind.i64.wrap ((n : Int) + 1) = (n : Int) + 1 := by rw [IntWalk.i64_in _ ⟨by omega, by omega⟩]
    have I1 := hid i1; have I2 := hid i2; have I3 := hid i3; have I4 := hid i4; have I5 := hid i5; have I6 := hid i6; have HV := hid hv; have HR := hid hr; have HBW := hid hB; have HP := hid hp; have HD1 := hid hd; have HLE := hid hle; have HVAL := hid hval; have HQ := hid hq; have HVV := hid hvv; have HKK := hid hk
    have A6 := hid ha6; have A7 := hid hb7; have N6 := hid (o7 _ _ _ (by decide) ha6); have N7 := hid (o7 _ _ _ (by decide) hb7); have N5 := hid (o7 _ _ _ (by decide) hv)
    clear ha6 hb7
    have R1 := hid r1; have R2 := hid r2; have R3 := hid r3; have HC0 := hid o1; have HC1 := hid o2; have HO7 := hid o7
    clear i1 i2 i3 i4 i5 i6 hv hr hB hp hd hle hval hq hvv hk r1 r2 r3 o1 o2 o3 o4 o7
    by_cases h1 : val = 1
    · have q0 : ((val : Int) == 1) = true := by rw [h1]; rfl
      have HV1 := hid h1
      clear h1
      gi_wp2_with fail
      have e1 : ((n : Int) + 1) = ((n + 1 : Nat) : Int) := rfl
      have hu := coinF_one HND.out HD1.out (HVV.out.symm.trans HV1.out)
      have hser := sr_one (vs := vs) (n := n) HND.out I1.out I4.out HD1.out (HVV.out.symm.trans HV1.out)
      have hq := HQ.out; have h5 := I5.out; have h6 := I6.out; have hle := HLE.out
      refine ⟨(KeepsOthers.setCell _ _ _).from _, ⟨by simp [World.setCell], fun _ _ _ => ⟨(Below.refl _ _).setCell HC0.out _, Below.heap_setCell _ _ _ _ (fun e => N6.out e), Below.heap_setCell _ _ _ _ (fun e => N7.out e)⟩⟩, ⟨⟨m, vs, n + 1, _, I1.out, by rw [HKK.out]; exact I2.out, ?_, ?_, ?_, ?_, Blk.other HV.out (fun e => N5.out e.symm) _, ?_⟩, Blk.other A6.out (fun e => N6.out e.symm) _, Blk.other A7.out (fun e => N7.out e.symm) _⟩, HBW.out.setCell HC0.out _⟩
      · rw [posOf_snoc, I3.out, hser, hq]
      · rw [posOf_snoc]; show q ≤ _; omega
      · rw [posOf_snoc, List.length_append, List.length_singleton]; show pre.length + 1 + (L.length - q + m) ≤ _; omega
      · rw [List.length_append, List.length_singleton]; omega
      · rw [HKK.out]
        have h7 := own_set HR.out k (.int .i64 ((n + 1 : Nat) : Int))
        rw [ints_set, List.set_append_right _ _ (Nat.le_of_eq HKK.out), HKK.out, Nat.sub_self] at h7
        exact h7
    · have q0 : ((val : Int) == 1) = false := by rw [beq_eq_false_iff_ne]; omega
      have HV0 := hid h1
      have hnv := hid (show ¬ (coinF N D L p).2.1 = 1 from by rw [← HVV.out]; exact h1)
      clear h1
      by_cases h2 : k + 1 = many
      · have q1 : (((k : Int) + 1) == (many : Int)) = true := by rw [beq_iff_eq]; omega
        have HM := hid h2
        clear h2
        gi_wp2_with fail
        have hm1 : m = 1 := by have := I2.out; have := HM.out; omega
        have h8 := HBB.out; have h9 := HC0.out
        have hstop := sr_stop (vs := vs) (n := n) HD1.out hnv.out
        refine ⟨(((KeepsOthers.setCell _ _ _).trans (KeepsOthers.setCell _ _ _)).trans (KeepsOthers.setCell _ _ _)).from _, ⟨rfl, vs ++ [n], q, .slice (some ⟨g, 0, none⟩) (k + 1) cap, ?_, ?_, ?_, ?_, ?_, ?_⟩, ?_⟩
        · rw [I3.out, hm1, hstop, HQ.out]
        · rw [List.length_append, HKK.out]; exact HM.out
        · exact (((R1.out.set 0 _).other (by simp) _).other (by simp <;> omega) _)
        · exact ((R2.out.other (by simp) _).set 0 _).other (by simp) _
        · exact ((R3.out.other (by simp <;> omega) _).other (by simp) _).set 0 _
        · rw [List.length_append, HKK.out]
          exact ((ownsRow_setCell_below (ownsRow_setCell_below (ownsRow_setCell_below HR.out (by simp <;> omega) _) (by simp <;> omega) _) (by simp <;> omega) _))
        · exact (((HB0.out.trans (HBW.out.mono (by omega))).setCell (by simp <;> omega) _).setCell (by simp <;> omega) _).setCell (by simp <;> omega) _
      · have q1 : (((k : Int) + 1) == (many : Int)) = false := by rw [beq_eq_false_iff_ne]; omega
        have HM := hid h2
        clear h2
        gi_wp2_with (gi_at_builtin; refine wpListIn_append_own _ rfl _ _ 24 rfl B 3 i0 (.int .i64 0) 1 8 Tryz.underlying24 hi hz0 hz1 hz2 rfl (by decide) _ (k + 1) _ rfl (HR.out.alloc _) ⟨W.heap.size, 0, none⟩ 1 1 [.int .i64 0] rfl rfl (cell_one_new W (.int .i64 0) 3) (by simp [Value.oneCell']) (by unfold maxLen; omega) (by omega) (by have := HC0.out; have := HC1.out; simp; omega) ?_; intro v' w3 hown3 hgrow3 _
                     obtain ⟨g2, cap2, rfl⟩ := ownsRow_succ hown3
                     obtain ⟨e1, e2, e3, e4, e5⟩ := Boxed.appended (B := B + 1) HV.out (by decide) HR.out (by have := HC0.out; have := HC1.out; omega) (Nat.le_succ B) hown3 hgrow3
                     have k0 := e1.cell
                     have k1 := e1.frozen
                     have E1 := hid e1; have E2 := hid e2; have E3 := hid e3; have E4 := hid e4; have E5 := hid e5; have HG3 := hid hgrow3
                     clear e1 e2 e3 e4 e5 hown3 hgrow3)
        have hm2 : 2 ≤ m := by have := I1.out; have := I2.out; have := HM.out; omega
        have hser := sr_more (vs := vs) (n := n) HND.out hm2 I4.out HD1.out hnv.out
        have hq := HQ.out; have h5 := I5.out; have h6 := I6.out; have hle := HLE.out
        have hg : (W.alloc (.cells #[.int .i64 0] 3)).grownBy w3 (some g) := HG3.out
        have A6' := (((A6.out.alloc (.cells #[.int .i64 0] 3)).grown hg (fun e => N6.out (by cases e; rfl))).other (a := ⟨B + 1, 0, none⟩) (by simp) (.slice (some ⟨g2, 0, none⟩) (k + 1 + 1) cap2))
        have A7' := (((A7.out.alloc (.cells #[.int .i64 0] 3)).grown hg (fun e => N7.out (by cases e; rfl))).other (a := ⟨B + 1, 0, none⟩) (by simp <;> omega) (.slice (some ⟨g2, 0, none⟩) (k + 1 + 1) cap2))
        refine ⟨E4.out.from _, ⟨E5.out.size, fun _ _ _ => ⟨E5.out, A6'.trans (Eq.symm A6.out), A7'.trans (Eq.symm A7.out)⟩⟩, ⟨⟨m - 1, vs ++ [n], 0, _, by omega, by rw [List.length_append, HKK.out]; have := I2.out; simp <;> omega, ?_, ?_, ?_, Nat.zero_le _, E2.out, ?_⟩, A6', A7'⟩, HBW.out.trans E5.out⟩
        · rw [posOf_snoc, I3.out, hser, hq]
        · rw [posOf_snoc]; show q ≤ _; omega
        · rw [posOf_snoc, List.length_append, List.length_singleton]; show pre.length + 1 + (L.length - q + (m - 1)) ≤ _; omega
        · have h7 := E3.out
          rw [List.length_append, List.length_singleton, HKK.out, ints_append]
          exact h7
  case done =>
    rintro D' xs W hD hS ⟨⟨⟨m, vs, n, v, i1, i2, i3, i4, i5, i6, hv, hr⟩, ha6, hb7⟩, hB⟩ hK
    rw [HN.out, HD.out, HLQ.out] at hS
    have hsn := hid (i3.trans (sr_late i1 hS))
    have r1 := Y1.out.below hB (by have := HBB.out; omega)
    have r2 := Y2.out.below hB (by have := HBB.out; omega)
    have r3 := Y3.out.below hB (by have := HBB.out; omega)
    have c4 := r1.cell 0
    have c5 := r2.cell 0
    have c6 := r3.cell 0
    have c7 := r1.free 0
    have c8 := r2.free 0
    have c9 := r3.free 0
    simp at c4 c5 c6
    have R1 := hid r1; have R2 := hid r2; have R3 := hid r3; have HBW := hid hB; have HK := hid hK; have HDD := hid hD
    clear i1 i2 i3 i4 i5 i6 hv hr ha6 hb7 hB hK hS r1 r2 r3 hD
    gi_wp2_with fail
    have q1 := ((R1.out.set 0 (.slice none 0 0)).other (a := ⟨w.heap.size + 1 + 1, 0, none⟩) (by simp) (.int .i64 0)).other (a := ⟨w.heap.size + 1 + 1 + 1, 0, none⟩) (by simp <;> omega) (.bool false)
    have q2 := ((R2.out.other (a := ⟨w.heap.size + 1, 0, none⟩) (by simp) (.slice none 0 0)).set 0 (.int .i64 0)).other (a := ⟨w.heap.size + 1 + 1 + 1, 0, none⟩) (by simp) (.bool false)
    have q3 := ((R3.out.other (a := ⟨w.heap.size + 1, 0, none⟩) (by simp <;> omega) (.slice none 0 0)).other (a := ⟨w.heap.size + 1 + 1, 0, none⟩) (by simp) (.int .i64 0)).set 0 (.bool false)
    have hk3 := ((((KeepsOthers.setCell W ⟨w.heap.size + 1, 0, none⟩ (.slice none 0 0)).trans (KeepsOthers.setCell _ ⟨w.heap.size + 1 + 1, 0, none⟩ (.int .i64 0))).trans (KeepsOthers.setCell _ ⟨w.heap.size + 1 + 1 + 1, 0, none⟩ (.bool false)))).same D' _ HK.out rfl
    have p1 := (q1.put hk3 (.deferred none)).cell 0
    have p2 := (q2.put hk3 (.deferred none)).cell 0
    have p3 := (q3.put hk3 (.deferred none)).cell 0
    simp at p1 p2 p3
    have h8 := HBB.out; have h9 := HDD.out; have hz := Z0.out
    refine marks_end hk3 (v := .tuple #[.slice none 0 0, .int .i64 0, .bool false]) (by simp [results, Tryz.results91, go_sem, p1, p2, p3]) ⟨by rw [hsn.out]; first | done | rfl, ?_⟩
    exact ((((HB0.out.trans (HBW.out.mono (by omega))).setCell (by simp <;> omega) _).setCell (by simp <;> omega) _).setCell (by simp <;> omega) _).trans (belowK_b (w := w) (Nat.le_refl _) _ D' _ _ (by omega) hk3 rfl rfl)
  case stop =>
    rintro D' c pre W hD - ⟨⟨rfl, vs, x, v, h1, h2, h3, h4, h5, hr⟩, hB⟩ hK
    have p1 := (h3.put hK (.deferred none)).cell 0
    have p2 := (h4.put hK (.deferred none)).cell 0
    have p3 := (h5.put hK (.deferred none)).cell 0
    have hrow : Row (W.putObj D' (.deferred none)) v (ints .i64 vs) := Row.put (Row.of_owns hr) hK _
    simp at p1 p2 p3
    have H1' := hid h1; have HROW := hid hrow; have HB' := hid hB; have HK := hid hK; have HDD := hid hD
    obtain ⟨a3, c3, rfl⟩ := owns_ex hr
    clear h1 h3 h4 h5 hr hrow hB hD
    gi_wp2_with fail
    have h8 := HBB.out; have h9 := HDD.out; have hz := Z0.out
    refine marks_end hK (v := .tuple #[.slice a3 vs.length c3, .int .i64 (x : Nat), .bool true]) (by simp [results, Tryz.results91, go_sem, p1, p2, p3]) ⟨?_, ?_⟩
    · rw [H1'.out]; exact ⟨_, rfl, HROW.out⟩
    · exact HB'.out.trans (belowK_b (w := w) (Nat.le_refl _) _ D' _ _ (by omega) hK rfl rfl)
end Go.Proofs.YtgphopkifomffaaGreatDoor
namespace Go.Proofs.YtgphopkifomffaaGreatDoor
open Go.RowKit Go.Shelf
open Go.Lib (decDigits nDigits)
set_option linter.unusedVariables false
set_option linter.unusedSimpArgs false
theorem gPE_ok {p : ByteArray} (h : gPE p = 0) : cPE p = 0 ∧ bN (cW p) < bN (qD p) := by
  unfold gPE at h
  split at h
  · rename_i he
    exact absurd h he
  · rename_i he
    have he' : qE p = 0 := Decidable.not_not.1 he
    split at h
    · cases h
    · rename_i h2
      split at h
      · cases h
      · rename_i h3
        obtain ⟨a, b, c, d, e1, e2⟩ := parts_ok he' (fun h => h2 (.inl h)) h3
        have h4 : ¬ 0 ≤ cmpN (cW p).data.toList (qD p).data.toList := fun h => h2 (.inr h)
        refine ⟨?_, ?_⟩
        · rw [cPE, if_neg he, if_neg (fun h => ?_), if_neg h3]
          rcases h with h | h
          · exact h2 (.inl h)
          · exact h4 (by omega)
        · rw [cmpN, if_pos ⟨e1, e2⟩, ordN] at h4
          show dv _ < dv _
          split at h4
          · assumption
          · split at h4 <;> simp at h4
theorem gE_ok {a b : ByteArray} (h : gE a b = 0) : gPE a = 0 ∧ chkE b = 0 := by
  unfold gE at h
  split at h
  · rename_i h1; exact absurd h h1
  · rename_i h1; exact ⟨Decidable.not_not.1 h1, h⟩
set_option maxRecDepth 100000 in
set_option maxHeartbeats 1000000 in
theorem g_draw_none (w : World) (a b : ByteArray) (many : Nat) (h1 : 1 ≤ many) (h2 : many ≤ 1000) (ha : a.size ≤ 100000) (hb : b.size ≤ 100000) (he : gE a b = 0) (hL : Lay w)
    (hr : sr (bN (cW a)) (bN (qD a)) b.data.toList many 0 [] 0 = none) :
    Calls Tryz.prog 50 #[.string a, .string b, .int .i64 (many : Nat)] w fun e w' => e = .returned (.tuple #[.agg #[.bool false, .int .i64 0, .int .i64 (b.size : Nat)], .int .i64 0]) ∧ Below w.heap.size w w' := by
  have HC := fun V hV => hid (g_check V a b ha hb hV)
  have HS := fun V hV => hid (g_series V a b many h1 h2 ha (gE_ok he).2 (gPE_ok (gE_ok he).1).1 (gPE_ok (gE_ok he).1).2 hV)
  rw [he] at HC
  rw [hr] at HS
  simp only [SerOut] at HS
  have HL := hid hL
  have b0 := hid ((Below.refl w.heap.size w).alloc (Nat.le_refl _) (.cells #[.bool false, .int .i64 0, .int .i64 0] 53))
  have x0 := hid (Blk.new w #[.bool false, .int .i64 0, .int .i64 0] 53)
  clear h1 h2 ha hb he hL hr
  go_enter Tryz.func50, Tryz.ntmps50
  go_wp2_with fail
  refine (HC _ (HL.out.call b0.out)).out.mono ?_; rintro e w1 ⟨rfl, hb1⟩
  have b1 := hid (bnext b0.out hb1); have x1 := hid (x0.out.call hb1)
  clear hb1
  go_wp2_with fail
  refine (HS _ (HL.out.call b1.out)).out.mono ?_; rintro e w2 ⟨rfl, hb2⟩
  have b2 := hid (bnext b1.out hb2); have x2 := hid (x1.out.call hb2)
  have r0 : w2.cell? ⟨w.heap.size, 0, none⟩ = some (.bool false) := x2.out.cell 0
  have r1 : w2.cell? ⟨w.heap.size, 1, none⟩ = some (.int .i64 0) := x2.out.cell 1
  have r2 : w2.cell? ⟨w.heap.size, 2, none⟩ = some (.int .i64 0) := x2.out.cell 2
  have f0 := x2.out.free 0
  have f1 := x2.out.free 1
  have f2 := x2.out.free 2
  clear hb2
  go_wp2_with fail
  have s3 := ((x2.out.set 0 (.bool false)).set 1 (.int .i64 0)).set 2 (.int .i64 (b.size : Nat))
  have k0 := s3.cell 0
  have k1 := s3.cell 1
  have k2 := s3.cell 2
  simp at k0 k1 k2
  refine bodyPost_ret (v := .tuple #[.agg #[.bool false, .int .i64 0, .int .i64 (b.size : Nat)], .int .i64 0]) (by simp [results, Tryz.results50, go_sem, k0, k1, k2]) rfl ⟨rfl, ?_⟩
  exact ((b2.out.setCell (Nat.le_refl _) _).setCell (Nat.le_refl _) _).setCell (Nat.le_refl _) _
set_option maxRecDepth 100000 in
set_option maxHeartbeats 1000000 in
theorem g_draw_bad (w : World) (a b : ByteArray) (many : Nat) (ha : a.size ≤ 100000) (hb : b.size ≤ 100000) (he : gE a b ≠ 0) (hL : Lay w) :
    Calls Tryz.prog 50 #[.string a, .string b, .int .i64 (many : Nat)] w fun e w' => e = .returned (.tuple #[.agg #[.bool false, .int .i64 0, .int .i64 0], .int .i64 (gE a b)]) ∧ Below w.heap.size w w' := by
  have HC := fun V hV => hid (g_check V a b ha hb hV)
  obtain ⟨x, hx⟩ : ∃ x, gE a b = x := ⟨_, rfl⟩
  rw [hx] at HC he ⊢
  have q0 : (x == 0) = false := by simpa using he
  have q1 : (x != 0) = true := by simpa using he
  have HL := hid hL
  have b0 := hid ((Below.refl w.heap.size w).alloc (Nat.le_refl _) (.cells #[.bool false, .int .i64 0, .int .i64 0] 53))
  have x0 := hid (Blk.new w #[.bool false, .int .i64 0, .int .i64 0] 53)
  clear ha hb he hL hx
  go_enter Tryz.func50, Tryz.ntmps50
  go_wp2_with fail
  refine (HC _ (HL.out.call b0.out)).out.mono ?_; rintro e w2 ⟨rfl, hb2⟩
  have b2 := hid (bnext b0.out hb2); have x2 := hid (x0.out.call hb2)
  have r0 : w2.cell? ⟨w.heap.size, 0, none⟩ = some (.bool false) := x2.out.cell 0
  have r1 : w2.cell? ⟨w.heap.size, 1, none⟩ = some (.int .i64 0) := x2.out.cell 1
  have r2 : w2.cell? ⟨w.heap.size, 2, none⟩ = some (.int .i64 0) := x2.out.cell 2
  have f0 := x2.out.free 0
  have f1 := x2.out.free 1
  have f2 := x2.out.free 2
  clear hb2
  go_wp2_with fail
  have s3 := ((x2.out.set 0 (.bool false)).set 1 (.int .i64 0)).set 2 (.int .i64 0)
  have k0 := s3.cell 0
  have k1 := s3.cell 1
  have k2 := s3.cell 2
  simp at k0 k1 k2
  refine bodyPost_ret (v := .tuple #[.agg #[.bool false, .int .i64 0, .int .i64 0], .int .i64 x]) (by simp [results, Tryz.results50, go_sem, k0, k1, k2]) rfl ⟨rfl, ?_⟩
  exact ((b2.out.setCell (Nat.le_refl _) _).setCell (Nat.le_refl _) _).setCell (Nat.le_refl _) _
set_option maxRecDepth 100000 in
set_option maxHeartbeats 1000000 in
theorem g_draw_one (w : World) (a b : ByteArray) (x p : Nat) (hx : x ≤ 100000) (hp : p ≤ 100000) (ha : a.size ≤ 100000) (hb : b.size ≤ 100000) (he : gE a b = 0) (hL : Lay w)
    (hr : sr (bN (cW a)) (bN (qD a)) b.data.toList 1 0 [] 0 = some ([x], p)) :
    Calls Tryz.prog 50 #[.string a, .string b, .int .i64 1] w fun e w' => e = .returned (.tuple #[.agg #[.bool true, .int .i64 (x : Nat), .int .i64 (p : Nat)], .int .i64 0]) ∧ Below w.heap.size w w' := by
  have HC := fun V hV => hid (g_check V a b ha hb hV)
  have HS := fun V hV => hid (g_series V a b 1 (by omega) (by omega) ha (gE_ok he).2 (gPE_ok (gE_ok he).1).1 (gPE_ok (gE_ok he).1).2 hV)
  rw [he] at HC
  rw [hr] at HS
  simp only [SerOut] at HS
  have HL := hid hL
  have b0 := hid ((Below.refl w.heap.size w).alloc (Nat.le_refl _) (.cells #[.bool false, .int .i64 0, .int .i64 0] 53))
  have x0 := hid (Blk.new w #[.bool false, .int .i64 0, .int .i64 0] 53)
  clear ha hb he hL hr
  go_enter Tryz.func50, Tryz.ntmps50
  go_wp2_with fail
  refine (HC _ (HL.out.call b0.out)).out.mono ?_; rintro e w1 ⟨rfl, hb1⟩
  have b1 := hid (bnext b0.out hb1); have x1 := hid (x0.out.call hb1)
  clear hb1
  go_wp2_with fail
  refine (HS _ (HL.out.call b1.out)).out.mono ?_; rintro e w2 ⟨⟨v, rfl, hv⟩, hb2⟩
  have b2 := hid (bnext b1.out hb2); have x2 := hid (x1.out.call hb2)
  obtain ⟨a3, c3, rfl, h3, h4, h5⟩ := hv.openI
  obtain ⟨g, o, rfl, -, hc⟩ := h5 0 x rfl
  rw [Nat.add_zero] at hc
  have r0 : w2.cell? ⟨w.heap.size, 0, none⟩ = some (.bool false) := x2.out.cell 0
  have r1 : w2.cell? ⟨w.heap.size, 1, none⟩ = some (.int .i64 0) := x2.out.cell 1
  have r2 : w2.cell? ⟨w.heap.size, 2, none⟩ = some (.int .i64 0) := x2.out.cell 2
  have f0 := x2.out.free 0
  have f1 := x2.out.free 1
  have f2 := x2.out.free 2
  clear hb2 hv h5
  simp only [List.length_singleton] at h3 ⊢
  go_wp2_with fail
  all_goals
    go_loop [12, 41] (fun v i => v = .int .i64 (x : Nat) ∧ i = .int .i64 0) (fun _ _ => 0)
    case atStart => exact ⟨rfl, rfl⟩
    case round =>
      obtain ⟨rfl, rfl⟩ := hrel
      go_wp2_with fail
      have s3 := ((x2.out.set 0 (.bool true)).set 1 (.int .i64 (x : Nat))).set 2 (.int .i64 (p : Nat))
      have k0 := s3.cell 0
      have k1 := s3.cell 1
      have k2 := s3.cell 2
      simp at k0 k1 k2
      refine bodyPost_ret (v := .tuple #[.agg #[.bool true, .int .i64 (x : Nat), .int .i64 (p : Nat)], .int .i64 0]) (by simp [results, Tryz.results50, go_sem, k0, k1, k2]) rfl ⟨rfl, ?_⟩
      exact ((b2.out.setCell (Nat.le_refl _) _).setCell (Nat.le_refl _) _).setCell (Nat.le_refl _) _
set_option maxRecDepth 100000 in
set_option maxHeartbeats 1000000 in
theorem g_draw_two (w : World) (a b : ByteArray) (x y p : Nat) (hx : x ≤ 100000) (hy : y ≤ 100000) (hp : p ≤ 100000) (ha : a.size ≤ 100000) (hb : b.size ≤ 100000) (he : gE a b = 0) (hL : Lay w)
    (hr : sr (bN (cW a)) (bN (qD a)) b.data.toList 2 0 [] 0 = some ([x, y], p)) :
    Calls Tryz.prog 50 #[.string a, .string b, .int .i64 2] w fun e w' => e = .returned (.tuple #[.agg #[.bool true, .int .i64 ((x : Int) - (y : Int)), .int .i64 (p : Nat)], .int .i64 0]) ∧ Below w.heap.size w w' := by
  have HC := fun V hV => hid (g_check V a b ha hb hV)
  have HS := fun V hV => hid (g_series V a b 2 (by omega) (by omega) ha (gE_ok he).2 (gPE_ok (gE_ok he).1).1 (gPE_ok (gE_ok he).1).2 hV)
  rw [he] at HC
  rw [hr] at HS
  simp only [SerOut] at HS
  have HL := hid hL
  have b0 := hid ((Below.refl w.heap.size w).alloc (Nat.le_refl _) (.cells #[.bool false, .int .i64 0, .int .i64 0] 53))
  have x0 := hid (Blk.new w #[.bool false, .int .i64 0, .int .i64 0] 53)
  clear ha hb he hL hr
  go_enter Tryz.func50, Tryz.ntmps50
  go_wp2_with fail
  refine (HC _ (HL.out.call b0.out)).out.mono ?_; rintro e w1 ⟨rfl, hb1⟩
  have b1 := hid (bnext b0.out hb1); have x1 := hid (x0.out.call hb1)
  clear hb1
  go_wp2_with fail
  refine (HS _ (HL.out.call b1.out)).out.mono ?_; rintro e w2 ⟨⟨v, rfl, hv⟩, hb2⟩
  have b2 := hid (bnext b1.out hb2); have x2 := hid (x1.out.call hb2)
  obtain ⟨a3, c3, rfl, h3, h4, h5⟩ := hv.openI
  obtain ⟨g, o, rfl, -, hc⟩ := h5 0 x rfl
  obtain ⟨g', o', hgo, -, hd⟩ := h5 1 y rfl
  simp at hgo
  obtain ⟨rfl, rfl⟩ := hgo
  rw [Nat.add_zero] at hc
  have r0 : w2.cell? ⟨w.heap.size, 0, none⟩ = some (.bool false) := x2.out.cell 0
  have r1 : w2.cell? ⟨w.heap.size, 1, none⟩ = some (.int .i64 0) := x2.out.cell 1
  have r2 : w2.cell? ⟨w.heap.size, 2, none⟩ = some (.int .i64 0) := x2.out.cell 2
  have f0 := x2.out.free 0
  have f1 := x2.out.free 1
  have f2 := x2.out.free 2
  clear hb2 hv h5
  simp only [List.length_cons, List.length_nil, Nat.zero_add, Nat.reduceAdd] at h3 ⊢
  have w1 : IntKind.i64.wrap ((x : Int) - (y : Int)) = (x : Int) - (y : Int) := by rw [IntWalk.i64_in _ ⟨by omega, by omega⟩]
  go_wp2_with fail
  all_goals
    go_loop [12, 41] (fun v i => (v = .int .i64 (x : Nat) ∧ i = .int .i64 0) ∨ (v = .int .i64 ((x : Int) - (y : Int)) ∧ i = .int .i64 1)) (fun _ i => 1 - (intOf i).toNat)
    case atStart => exact .inl ⟨rfl, rfl⟩
    case round =>
      rcases hrel with ⟨rfl, rfl⟩ | ⟨rfl, rfl⟩
      · go_wp2_with fail
        go_round
        case rel => exact .inr ⟨rfl, rfl⟩
        case measure => simp [intOf]
      · go_wp2_with fail
        have s3 := ((x2.out.set 0 (.bool true)).set 1 (.int .i64 ((x : Int) - (y : Int)))).set 2 (.int .i64 (p : Nat))
        have k0 := s3.cell 0
        have k1 := s3.cell 1
        have k2 := s3.cell 2
        simp at k0 k1 k2
        refine bodyPost_ret (v := .tuple #[.agg #[.bool true, .int .i64 ((x : Int) - (y : Int)), .int .i64 (p : Nat)], .int .i64 0]) (by simp [results, Tryz.results50, go_sem, k0, k1, k2]) rfl ⟨rfl, ?_⟩
        exact ((b2.out.setCell (Nat.le_refl _) _).setCell (Nat.le_refl _) _).setCell (Nat.le_refl _) _
end Go.Proofs.YtgphopkifomffaaGreatDoor
namespace Go.Proofs.YtgphopkifomffaaGreatDoor
open Go.RowKit Go.Shelf
open Go.Lib (decDigits nDigits)
set_option linter.unusedVariables false
set_option linter.unusedSimpArgs false
def d3 (t : Bool × Int × Int) : Value := .agg #[.bool t.1, .int .i64 t.2.1, .int .i64 t.2.2]
def oneT (N D : Nat) (l : List UInt8) : Bool × Int × Int := match s1 N D l 0 0 with
  | none => (false, 0, (l.length : Nat))
  | some (x, p) => (true, (x : Nat), (p : Nat))
def twoT (N D : Nat) (l : List UInt8) : Bool × Int × Int := match s1 N D l 0 0 with
  | none => (false, 0, (l.length : Nat))
  | some (x, p) => match s1 N D l p 0 with
    | none => (false, 0, (l.length : Nat))
    | some (y, q) => (true, (x : Int) - (y : Int), (q : Nat))
def oT (a b : ByteArray) : Bool × Int × Int := if gE a b = 0 then oneT (bN (cW a)) (bN (qD a)) b.data.toList else (false, 0, 0)
def wT (a b : ByteArray) : Bool × Int × Int := if gE a b = 0 then twoT (bN (cW a)) (bN (qD a)) b.data.toList else (false, 0, 0)
theorem chk_size {b : ByteArray} (h : chkE b = 0) : b.size ≤ 256 := by
  have h5 := (bit_drop h 0).2.1
  have h6 := list_size (b.extract 0 b.size)
  have h7 := (bit_drop h 0).2.2
  rw [h5, List.drop_zero, list_size] at h6
  omega
theorem g_draw1 (w : World) (a b : ByteArray) (ha : a.size ≤ 100000) (hb : b.size ≤ 100000) (hL : Lay w) :
    Calls Tryz.prog 50 #[.string a, .string b, .int .i64 1] w fun e w' => e = .returned (.tuple #[d3 (oT a b), .int .i64 (gE a b)]) ∧ Below w.heap.size w w' := by
  by_cases he : gE a b = 0
  · have hs := chk_size (gE_ok he).2
    have hND := (gPE_ok (gE_ok he).1).2
    have hl : b.data.toList.length = b.size := list_size b
    have h1 := sr_one_eq hND (l := b.data.toList) b.data.toList.length 0 [] 0 (Nat.zero_le _) (by omega)
    rw [oT, if_pos he, oneT, he]
    cases hS : s1 (bN (cW a)) (bN (qD a)) b.data.toList 0 0 with
    | none =>
      rw [hS] at h1
      refine (g_draw_none w a b 1 (by omega) (by omega) ha hb he hL h1).mono fun e w' h => ?_
      rw [h.1]
      exact ⟨by rw [hl]; rfl, h.2⟩
    | some y =>
      obtain ⟨x, p⟩ := y
      rw [hS] at h1
      have h2 := s1_le hND b.data.toList.length 0 0 x p (Nat.zero_le _) (by omega) hS
      exact g_draw_one w a b x p (by omega) (by omega) ha hb he hL h1
  · rw [oT, if_neg he]
    exact g_draw_bad w a b 1 ha hb he hL
theorem g_draw2 (w : World) (a b : ByteArray) (ha : a.size ≤ 100000) (hb : b.size ≤ 100000) (hL : Lay w) :
    Calls Tryz.prog 50 #[.string a, .string b, .int .i64 2] w fun e w' => e = .returned (.tuple #[d3 (wT a b), .int .i64 (gE a b)]) ∧ Below w.heap.size w w' := by
  by_cases he : gE a b = 0
  · have hs := chk_size (gE_ok he).2
    have hND := (gPE_ok (gE_ok he).1).2
    have hl : b.data.toList.length = b.size := list_size b
    have h1 := sr_two hND (l := b.data.toList) b.data.toList.length 0 [] 0 (Nat.zero_le _) (by omega)
    rw [wT, if_pos he, twoT, he]
    cases hS : s1 (bN (cW a)) (bN (qD a)) b.data.toList 0 0 with
    | none =>
      rw [hS] at h1
      refine (g_draw_none w a b 2 (by omega) (by omega) ha hb he hL h1).mono fun e w' h => ?_
      rw [h.1]
      exact ⟨by rw [hl]; rfl, h.2⟩
    | some y =>
      obtain ⟨x, p⟩ := y
      rw [hS] at h1
      have h2 := s1_le hND b.data.toList.length 0 0 x p (Nat.zero_le _) (by omega) hS
      have h3 := sr_one_eq hND (l := b.data.toList) b.data.toList.length p ([] ++ [x]) 0 h2.2.1 (by omega)
      dsimp only at h1 ⊢
      rw [h3] at h1
      cases hT : s1 (bN (cW a)) (bN (qD a)) b.data.toList p 0 with
      | none =>
        rw [hT] at h1
        refine (g_draw_none w a b 2 (by omega) (by omega) ha hb he hL h1).mono fun e w' h => ?_
        rw [h.1]
        exact ⟨by rw [hl]; rfl, h.2⟩
      | some z =>
        obtain ⟨y, q⟩ := z
        rw [hT] at h1
        have h4 := s1_le hND b.data.toList.length p 0 y q h2.2.1 (by omega) hT
        exact g_draw_two w a b x y q (by omega) (by omega) (by omega) ha hb he hL h1
  · rw [wT, if_neg he]
    exact g_draw_bad w a b 2 ha hb he hL
set_option maxRecDepth 100000 in
set_option maxHeartbeats 1000000 in
theorem g_One (w : World) (a b : ByteArray) (ha : a.size ≤ 100000) (hb : b.size ≤ 100000) (hL : Lay w) :
    Calls Tryz.prog 69 #[.string a, .string b] w fun e w' => e = .returned (.tuple #[d3 (oT a b), .int .i64 (gE a b)]) ∧ Below w.heap.size w w' := by
  have HC := fun V hV => hid (g_draw1 V a b ha hb hV)
  obtain ⟨t, ht⟩ : ∃ t, oT a b = t := ⟨_, rfl⟩
  obtain ⟨x, hx⟩ : ∃ x, gE a b = x := ⟨_, rfl⟩
  rw [ht, hx] at HC
  rw [ht, hx]
  obtain ⟨d, v, u⟩ := t
  simp only [d3] at HC
  have HL := hid hL
  have b0 := hid ((Below.refl w.heap.size w).alloc (Nat.le_refl _) (.cells #[.bool false, .int .i64 0, .int .i64 0] 53))
  have x0 := hid (Blk.new w #[.bool false, .int .i64 0, .int .i64 0] 53)
  clear ha hb hL hx ht
  go_enter Tryz.func69, Tryz.ntmps69
  go_wp2_with fail
  refine (HC _ (HL.out.call b0.out)).out.mono ?_; rintro e w2 ⟨rfl, hb2⟩
  have b2 := hid (bnext b0.out hb2); have x2 := hid (x0.out.call hb2)
  have r0 : w2.cell? ⟨w.heap.size, 0, none⟩ = some (.bool false) := x2.out.cell 0
  have r1 : w2.cell? ⟨w.heap.size, 1, none⟩ = some (.int .i64 0) := x2.out.cell 1
  have r2 : w2.cell? ⟨w.heap.size, 2, none⟩ = some (.int .i64 0) := x2.out.cell 2
  have f0 := x2.out.free 0
  have f1 := x2.out.free 1
  have f2 := x2.out.free 2
  clear hb2
  go_wp2_with fail
  have s3 := ((x2.out.set 0 (.bool d)).set 1 (.int .i64 v)).set 2 (.int .i64 u)
  have k0 := s3.cell 0
  have k1 := s3.cell 1
  have k2 := s3.cell 2
  simp at k0 k1 k2
  refine bodyPost_ret (v := .tuple #[.agg #[.bool d, .int .i64 v, .int .i64 u], .int .i64 x]) (by simp [results, Tryz.results69, go_sem, k0, k1, k2]) rfl ⟨rfl, ?_⟩
  exact ((b2.out.setCell (Nat.le_refl _) _).setCell (Nat.le_refl _) _).setCell (Nat.le_refl _) _
set_option maxRecDepth 100000 in
set_option maxHeartbeats 1000000 in
theorem g_Two (w : World) (a b : ByteArray) (ha : a.size ≤ 100000) (hb : b.size ≤ 100000) (hL : Lay w) :
    Calls Tryz.prog 20 #[.string a, .string b] w fun e w' => e = .returned (.tuple #[d3 (wT a b), .int .i64 (gE a b)]) ∧ Below w.heap.size w w' := by
  have HC := fun V hV => hid (g_draw2 V a b ha hb hV)
  obtain ⟨t, ht⟩ : ∃ t, wT a b = t := ⟨_, rfl⟩
  obtain ⟨x, hx⟩ : ∃ x, gE a b = x := ⟨_, rfl⟩
  rw [ht, hx] at HC
  rw [ht, hx]
  obtain ⟨d, v, u⟩ := t
  simp only [d3] at HC
  have HL := hid hL
  have b0 := hid ((Below.refl w.heap.size w).alloc (Nat.le_refl _) (.cells #[.bool false, .int .i64 0, .int .i64 0] 53))
  have x0 := hid (Blk.new w #[.bool false, .int .i64 0, .int .i64 0] 53)
  clear ha hb hL hx ht
  go_enter Tryz.func20, Tryz.ntmps20
  go_wp2_with fail
  refine (HC _ (HL.out.call b0.out)).out.mono ?_; rintro e w2 ⟨rfl, hb2⟩
  have b2 := hid (bnext b0.out hb2); have x2 := hid (x0.out.call hb2)
  have r0 : w2.cell? ⟨w.heap.size, 0, none⟩ = some (.bool false) := x2.out.cell 0
  have r1 : w2.cell? ⟨w.heap.size, 1, none⟩ = some (.int .i64 0) := x2.out.cell 1
  have r2 : w2.cell? ⟨w.heap.size, 2, none⟩ = some (.int .i64 0) := x2.out.cell 2
  have f0 := x2.out.free 0
  have f1 := x2.out.free 1
  have f2 := x2.out.free 2
  clear hb2
  go_wp2_with fail
  have s3 := ((x2.out.set 0 (.bool d)).set 1 (.int .i64 v)).set 2 (.int .i64 u)
  have k0 := s3.cell 0
  have k1 := s3.cell 1
  have k2 := s3.cell 2
  simp at k0 k1 k2
  refine bodyPost_ret (v := .tuple #[.agg #[.bool d, .int .i64 v, .int .i64 u], .int .i64 x]) (by simp [results, Tryz.results20, go_sem, k0, k1, k2]) rfl ⟨rfl, ?_⟩
  exact ((b2.out.setCell (Nat.le_refl _) _).setCell (Nat.le_refl _) _).setCell (Nat.le_refl _) _
end Go.Proofs.YtgphopkifomffaaGreatDoor
namespace Go.Proofs.YtgphopkifomffaaGreatDoor
open Go.RowKit Go.Shelf
open Go.Lib (decDigits nDigits)
set_option linter.unusedVariables false
set_option linter.unusedSimpArgs false
def tb (l : List UInt8) : ByteArray := ⟨l.toArray⟩
end Go.Proofs.YtgphopkifomffaaGreatDoor
namespace Go.Proofs
open Go.Shelf
def Tryz.lays212_ren : Go.Shelf.Ren := ⟨fun | 212 => 194 | 263 => 230 | 264 => 231 | n => n, fun | 46 => 107 | 51 => 153 | 146 => 264 | 53 => 120 | 148 => 266 | n => n, fun | n => n⟩
theorem Tryz.lays212 : Go.Proofs.Lays.n212 Tryz.prog Tryz.lays212_ren := {
  mixed := by kernel_rfl
  f212 := Tryz.func194.trans (congrArg some (by kernel_rfl))
  f263 := Tryz.func230.trans (congrArg some (by kernel_rfl))
  f264 := Tryz.func231.trans (congrArg some (by kernel_rfl))
  t46 := Tryz.underlying107
  a46 := Tryz.isAgg107
  z46 := Tryz.sizeOf107
  v46 := Tryz.zeroValue107
  t51 := Tryz.underlying153
  a51 := Tryz.isAgg153
  z51 := Tryz.sizeOf153
  v51 := Tryz.zeroValue153
  t53 := Tryz.underlying120
  a53 := Tryz.isAgg120
  z53 := Tryz.sizeOf120
  v53 := Tryz.zeroValue120
  t146 := Tryz.underlying264
  a146 := Tryz.isAgg264
  z146 := Tryz.sizeOf264
  v146 := Tryz.zeroValue264
  t148 := Tryz.underlying266
  a148 := Tryz.isAgg266
  z148 := Tryz.sizeOf266
  v148 := Tryz.zeroValue266 }
open Go.RowKit Go.Lib in
theorem Tryz.bits_Mul (x y : Nat) (hx : x < 18446744073709551616) (hy : y < 18446744073709551616) (w : World) :
    Calls Tryz.prog 194 #[.int .u64 x, .int .u64 y] w fun e w' => e = .returned (.tuple #[.int .u64 ((x * y / 18446744073709551616 : Nat) : Int), .int .u64 ((x * y % 18446744073709551616 : Nat) : Int)]) ∧ w' = w := Any.bits_Mul Tryz.lays212 x y hx hy w
end Go.Proofs
namespace Go.Proofs.YtgphopkifomffaaGreatDoor
open Go.RowKit
set_option linter.unusedVariables false
set_option linter.unusedSimpArgs false
def strsR (l : List ByteArray) : List Value := l.map Value.string
@[simp] theorem strsR_length (l : List ByteArray) : (strsR l).length = l.length := by simp [strsR]
theorem strsR_get {l : List ByteArray} {i : Nat} {s : ByteArray} (h : l[i]? = some s) : (strsR l)[i]? = some (.string s) := by simp [strsR, h]
theorem strsR_one (l : List ByteArray) : ∀ u ∈ strsR l, u.oneCell' = true := by
  intro u hu
  obtain ⟨x, _, rfl⟩ := List.mem_map.1 hu
  rfl
theorem make_strsR (n : Nat) (h : n ≤ 1000000) (W : World) : (Instr.makeSlice 168 (.int .i64 (n : Int)) (.int .i64 (n : Int))).run Tryz.prog W = .ok (.slice (some ⟨W.heap.size, 0, none⟩) n n) (W.alloc (.cells (madeCells #[.string ⟨#[]⟩] n) 22)) :=
  run_make_row' (P := Tryz.prog) 168 22 (.string ⟨#[]⟩) 16 Tryz.underlying168 (by kernel_rfl) rfl .i64 .i64 n (by omega) (by omega) W
theorem made_strsR (n : Nat) : madeCells #[.string ⟨#[]⟩] n = (strsR (List.replicate n ⟨#[]⟩)).toArray := by
  apply Array.ext_getElem?
  intro i
  unfold madeCells strsR
  by_cases hi : i < n <;> simp [hi, Nat.mod_one]
def repS (s : ByteArray) (n k : Nat) : List Value := strsR (List.replicate k s ++ List.replicate (n - k) ⟨#[]⟩)
theorem repS_splice {s : ByteArray} {n k m : Nat} (h : k + m ≤ n) : splice (repS s n k) k (strsR (List.replicate m s)) = repS s n (k + m) := by
  unfold splice repS strsR
  simp only [List.map_append, List.map_replicate, List.length_replicate]
  rw [List.take_append_of_le_length (by simp), List.take_of_length_le (by simp), List.drop_append, List.drop_of_length_le (by simp), List.nil_append, List.length_replicate, List.drop_replicate, ← List.append_assoc, List.replicate_append_replicate]
  rw [show n - k - (k + m - k) = n - (k + m) by omega]
set_option maxRecDepth 100000 in
set_option maxHeartbeats 2000000 in
theorem s_Repeat (w : World) (g0 n : Nat) (s : ByteArray) (h1 : 1 ≤ n) (h2 : n ≤ 100000) (hc : w.cell? ⟨g0, 0, none⟩ = some (.string s)) :
    Calls Tryz.prog 138 #[.slice (some ⟨g0, 0, none⟩) 1 1, .int .i64 n] w fun e w' =>
      e = .returned (.slice (some ⟨w.heap.size, 0, none⟩) n n) ∧ Blk w' w.heap.size (strsR (List.replicate n s)).toArray 22 ∧ Below w.heap.size w w' := by
  have HM := fun W => hid (make_strsR n (by omega) W)
  have HB := fun W => hid (Tryz.bits_Mul 1 n (by omega) (by omega) W)
  have e1 : (((1 * n / 18446744073709551616 : Nat)) : Int) = 0 := by
    rw [Nat.one_mul, Nat.div_eq_of_lt (by omega)]; rfl
  have e2 : (((1 * n % 18446744073709551616 : Nat)) : Int) = (n : Int) := by
    rw [Nat.one_mul, Nat.mod_eq_of_lt (by omega)]
  rw [e1, e2] at HB
  have hn0 : (0 : Int) ≤ (n : Int) := by omega
  have hn1 : (n : Int) ≤ 100000 := by omega
  have q0 : decide ((n : Int) < 0) = false := by simp
  have hsrc : ∀ j v, (strsR [s])[j]? = some v → w.cell? ((⟨g0, 0, none⟩ : Addr).add j) = some v := by
    intro j v hj
    rcases j with _ | j
    · simp [strsR] at hj; rw [← hj]; exact hc
    · simp [strsR] at hj
  have HSRC := hid hsrc; have H1 := hid h1; have H2 := hid h2
  clear e1 e2 hsrc hc h1 h2
  go_enter Tryz.func138, Tryz.ntmps138
  go_wp2_with fail
  refine (HB _).out.mono ?_; rintro e w1 ⟨rfl, rfl⟩
  clear HB
  have HM1 := (HM w1).out
  have hc1 : (w1.alloc (.cells (madeCells #[.string ⟨#[]⟩] n) 22)).heap[w1.heap.size]? = some (.cells (repS s n 0).toArray 22 (0, 0)) := by
    have := Blk.new w1 (madeCells #[.string ⟨#[]⟩] n) 22
    rw [made_strsR] at this ⊢
    simpa [repS, Blk] using this
  have hc2 : (strsR [s]).length = Nat.min 1 n := (Nat.min_eq_left H1.out).symm
  have hc3 : ∀ j v, (strsR [s])[j]? = some v → (w1.alloc (.cells (madeCells #[.string ⟨#[]⟩] n) 22)).cell? ((⟨g0, 0, none⟩ : Addr).add j) = some v := fun j v h =>
    have h2 := HSRC.out j v h
    (((Below.refl w1.heap.size w1).alloc (Nat.le_refl _) _).cell (cell_lt h2)).trans h2
  have hc4 : 0 + (strsR [s]).length ≤ (repS s n 0).length := by simp [strsR, repS]; have := H1.out; omega
  have hc5 := (Below.refl w1.heap.size w1).alloc (Nat.le_refl _) (.cells (madeCells #[.string ⟨#[]⟩] n) 22)
  have C1 := hid hc1; have C2 := hid hc2; have C3 := hid hc3; have C4 := hid hc4; have C5 := hid hc5
  have hsp : splice (repS s n 0) 0 (strsR [s]) = repS s n 1 := by
    have := repS_splice (s := s) (n := n) (k := 0) (m := 1) (by have := H1.out; omega)
    simpa using this
  have HSP := hid hsp
  clear hc1 hc2 hc3 hc4 hc5 HM hsp
  go_wp2_with (refine wpList_copy_splice rfl (.tmp 31) (.tmp 32) 168 168 rfl 22 Tryz.underlying168 (by kernel_rfl) (some ⟨w1.heap.size, 0, none⟩) (some ⟨g0, 0, none⟩) n n 1 1 rfl rfl w1.heap.size 0 (repS s n 0) 22 C1.out (strsR [s]) C2.out (fun _ => ⟨rfl, _, rfl, C3.out⟩) C4.out (strsR_one _) w1.heap.size w1 C5.out (Nat.le_refl _) ?_; intro w2 hg2 hb2)
  rw [HSP.out] at hg2
  have G2 := hid (show Blk w2 w1.heap.size (repS s n 1).toArray 22 from hg2.out); have B2 := hid hb2
  obtain ⟨H, hH⟩ : ∃ H, w1.heap.size = H := ⟨_, rfl⟩
  rw [hH] at G2 B2 ⊢
  clear hg2 hb2 HM1 C1 C2 C3 C4 C5 HSP HSRC
  have HH := hid hH
  clear hH
  go_loopw [8] (fun i wr => ∃ k : Nat, i = .int .i64 (k : Nat) ∧ 1 ≤ k ∧ k ≤ n ∧ Hid (Blk wr H (repS s n k).toArray 22) ∧ Hid (Below H w1 wr)) (fun i wr => n - (intOf i).toNat)
  case atStart => exact ⟨1, rfl, Nat.le_refl _, H1.out, G2.out, B2.out⟩
  case round =>
    obtain ⟨k, rfl, hk1, hk2, hG, hB⟩ := hrel
    by_cases hlt : k < n
    · have f0 : (0 : Int) ≤ (k : Int) := by omega
      have f1 : (k : Int) < (n : Int) := by omega
      have f2 : (k : Int) ≤ (n : Int) := by omega
      have K1 := hid hk1; have K2 := hid hlt
      clear hk1 hk2
      go_wp2_with fail
      refine held_plain [0, 1, 2, 3, 4, 5, 6] 3 (fun _ => True) (by kernel_rfl) (by kernel_rfl) (by kernel_rfl) (by kernel_rfl) trivial ?_
      iterate 7
        refine ⟨_, rfl, ?_⟩
        apply Exists.intro
        refine ⟨.inl ⟨by rfl, ?_⟩, ?_⟩
        · (intro W' hW'; clear hW'; go_simp; try (with_reducible rfl))
        (dsimp only [Act.put]; try simp only [List.setIfInBounds_toArray, List.set_cons_zero, List.set_cons_succ])
      refine held_one (i := 7) (by kernel_rfl) (by rfl) (by rfl) ?_
      obtain ⟨m, hm⟩ : ∃ m, Nat.min k (n - k) = m := ⟨_, rfl⟩
      have hm1 : m ≤ k := hm ▸ Nat.min_le_left _ _
      have hm2 : m ≤ n - k := hm ▸ Nat.min_le_right _ _
      have hm3 : 1 ≤ m := by rw [← hm]; exact Nat.le_min.2 ⟨K1.out, by omega⟩
      have hsrc : ∀ j v, (strsR (List.replicate m s))[j]? = some v → wr.drew.cell? ((⟨H, 0, none⟩ : Addr).add j) = some v := fun j v hj => by
        rw [Addr.add_lit, Nat.zero_add]
        have hjm : j < m := by
          have := (List.getElem?_eq_some_iff.1 hj).1
          simpa using this
        have hv : v = .string s := by
          rw [strsR_get (s := s) (by rw [List.getElem?_replicate, if_pos hjm])] at hj
          cases hj; rfl
        rw [hv]
        refine (Blk.cell (Blk.drew hG.out) j).trans ?_
        rw [List.getElem?_toArray]
        exact strsR_get (by rw [List.getElem?_append_left (by simp; omega), List.getElem?_replicate, if_pos (by omega)])
      rw [if_neg (show ¬ n = k by have := K2.out; omega)]
      refine wpList_copy_splice rfl (.tmp 41) (.tmp 44) 168 168 rfl 22 Tryz.underlying168 (by kernel_rfl) (some ⟨H, k, none⟩) (some ⟨H, 0, none⟩) (n - k) (n - k) k n rfl rfl H k (repS s n k) 22 hG.out (strsR (List.replicate m s)) (by simp [hm]) (fun _ => ⟨rfl, _, rfl, hsrc⟩) (by simp [repS, strsR] <;> omega) (strsR_one _) H w1 (hB.out.drew) (Nat.le_refl _) ?_
      intro w4 hg4 hb4
      rw [show (strsR (List.replicate m s)).length = m by simp]
      rw [repS_splice (by omega)] at hg4
      have G4 := hid (show Blk w4 H (repS s n (k + m)).toArray 22 from hg4.out); have B4 := hid hb4
      have M2 := hid hm2; have M3 := hid hm3
      have f5 : (0 : Int) ≤ (m : Int) := by omega
      have f6 : (m : Int) ≤ 100000 := by omega
      have ew : IntKind.i64.wrap ((k : Int) + (m : Int)) = (k : Int) + (m : Int) := by rw [IntWalk.i64_in _ ⟨by omega, by omega⟩]
      clear hm hm1 hm2 hm3 hsrc hg4 hb4
      go_wp2_with fail
      refine ⟨trivial, ?_⟩
      refine held_more (is := [8, 9]) (g := 0) (by kernel_rfl) rfl trivial (by kernel_rfl) ?_
      iterate 2
        refine ⟨_, rfl, ?_⟩
        apply Exists.intro
        refine ⟨.inl ⟨by rfl, ?_⟩, ?_⟩
        · (intro W' hW'; clear hW'; go_simp; try (with_reducible rfl))
        (dsimp only [Act.put]; try simp only [List.setIfInBounds_toArray, List.set_cons_zero, List.set_cons_succ])
      refine wpAnyH_done (by kernel_rfl) ?_ _
      simp only [Only]
      go_wp2_with fail
      go_roundw
      case rel => exact ⟨k + m, by rw [Int.natCast_add], by have := M3.out; omega, by have := M2.out; have := K2.out; omega, G4, B4⟩
      case measure => simp [intOf] <;> (have := M3.out; have := K2.out; omega)
    · have e1 : k = n := by omega
      subst e1
      go_wp2_with fail
      go_ret
      have hh := HH.out
      subst hh
      refine ⟨rfl, ?_, hB.out⟩
      have := hG.out
      simpa [repS] using this
end Go.Proofs.YtgphopkifomffaaGreatDoor
namespace Go.Proofs.YtgphopkifomffaaGreatDoor
open Go.RowKit
open Go.Lib (decDigits nDigits)
set_option linter.unusedVariables false
set_option linter.unusedSimpArgs false
theorem p_plus (V : World) (x y : Nat) (hx : nDigits x ≤ 4000) (hy : nDigits y ≤ 4000) (h : nDigits (x + y) ≤ 4000) (hL : Lay V) : Calls Tryz.prog 139 #[.string (numB x), .string (numB y)] V fun e w' => e = .returned (.string (numB (x + y))) ∧ Below V.heap.size V w' := by
  have h2 := g_plus V (numB x) (numB y) (numB_sz hx) (numB_sz hy) hL
  rwa [natB_num hx hy h] at h2
theorem p_times (V : World) (x y : Nat) (hx : nDigits x ≤ 4000) (hy : nDigits y ≤ 4000) (h : nDigits (x * y) ≤ 4000) (hL : Lay V) : Calls Tryz.prog 140 #[.string (numB x), .string (numB y)] V fun e w' => e = .returned (.string (numB (x * y))) ∧ Below V.heap.size V w' := by
  have h2 := g_times V (numB x) (numB y) (numB_sz hx) (numB_sz hy) hL
  rwa [natB_num hx hy h] at h2
theorem p_cmp (V : World) (x y : Nat) (hx : nDigits x ≤ 4000) (hy : nDigits y ≤ 4000) : Calls Tryz.prog 143 #[.string (numB x), .string (numB y)] V fun e w' => e = .returned (.int .i64 (ordN x y)) ∧ Below V.heap.size V w' := by
  have h2 := n_Cmp V (numB x) (numB y) (numB_sz hx) (numB_sz hy)
  rwa [cmpN_num hx hy] at h2
theorem p_sub (V : World) (x y : Nat) (hx : nDigits x ≤ 4000) (hy : nDigits y ≤ 4000) (h : y ≤ x) (hL : Lay V) : Calls Tryz.prog 99 #[.string (numB x), .string (numB y)] V fun e w' => e = .returned (.tuple #[.string (numB (x - y)), .int .i64 0]) ∧ Below V.heap.size V w' := by
  have h2 := n_Sub V (numB x) (numB y) (numB_sz hx) (numB_sz hy) hL
  have h3 : ¬ 4000 < nDigits (x - y) := by have := nDigits_mono (show x - y ≤ x by omega); omega
  have e1 : pairB (subB (bN (numB x)) (bN (numB y))) (numB x) (numB y) = numB (x - y) := by
    rw [bN_num, bN_num, pairB, if_pos ⟨errN_numB hx, errN_numB hy⟩, subB, if_neg (by omega), resB, if_neg h3]
  have e2 : pairE (subE (bN (numB x)) (bN (numB y))) (numB x) (numB y) = 0 := by
    rw [bN_num, bN_num, pairE, if_pos (errN_numB hx), if_pos (errN_numB hy), subE, if_neg (by omega), resE, if_neg h3]
  rwa [e1, e2] at h2
theorem make_bools (n : Nat) (h : n ≤ 1000000) (W : World) : (Instr.makeSlice 222 (.int .i64 (n : Int)) (.int .i64 (n : Int))).run Tryz.prog W = .ok (.slice (some ⟨W.heap.size, 0, none⟩) n n) (W.alloc (.cells (madeCells #[.bool false] n) 4)) :=
  run_make_row' (P := Tryz.prog) 222 4 (.bool false) 1 Tryz.underlying222 (by kernel_rfl) rfl .i64 .i64 n (by omega) (by omega) W
theorem made_bools (f : Nat → Bool) (n : Nat) : madeCells #[.bool false] (n + 1) = (tabL f n 0).toArray := by
  rw [tabL_zero]
  apply Array.ext_getElem?
  intro i
  unfold madeCells
  by_cases hi : i < n + 1 <;> simp [hi, Nat.mod_one]
def TwoB (w : World) (H n : Nat) (v u : Value) (f g : List Value) : Prop := ∃ g1 g2, v = .slice (some ⟨g1, 0, none⟩) (n + 1) (n + 1) ∧ u = .slice (some ⟨g2, 0, none⟩) (n + 1) (n + 1) ∧ g1 ≠ g2 ∧ H ≤ g1 ∧ H ≤ g2 ∧ Blk w g1 f.toArray 4 ∧ Blk w g2 g.toArray 4
def SidesOut (w : World) (n N D : Nat) (e : Ending) (w' : World) : Prop := ∃ v u, e = .returned (.tuple #[v, u]) ∧ TwoB w' w.heap.size n v u (allB (oneJ N D) n) (allB (zeroJ N D) n)
theorem lit_zero : ((⟨#[48]⟩ : ByteArray).toList == [48]) = true := by
  rw [Lib.toList_data]; rfl
set_option maxRecDepth 100000 in
set_option maxHeartbeats 4000000 in
theorem g_sides (w : World) (a : ByteArray) (n N D : Nat) (ha : a.size ≤ 100000) (he : gPE a = 0) (hn : n ≤ 1000) (hN : bN (cW a) = N) (hD : bN (qD a) = D) (hND : N < D) (hL : Lay w) :
    Calls Tryz.prog 193 #[.string a, .int .i64 n] w fun e w' => SidesOut w n N D e w' ∧ Below w.heap.size w w' := by
  have HR := hid (g_ratio w a ha hL)
  obtain ⟨c1, c2, c3, c4, -⟩ := cPE_ok (gPE_ok he).1
  rw [if_pos he, if_pos he, he] at HR
  rw [c1, c2, hN, hD] at HR
  rw [hN] at c3
  rw [hD] at c4
  have dN : ∀ x, x < 10 ^ (eN + 1) → nDigits x ≤ 4000 := fun x h => numB_small h (by omega) (by unfold eN; omega)
  have hM := fun W => hid (make_bools (n + 1) (by omega) W)
  have HL := hid hL; have HLL := hid hL.lt; have HND := hid hND; have DN := hid dN; have C4 := hid c4; have C3 := hid c3; have HN := hid hn
  have wn : IntKind.i64.wrap ((n : Int) + 1) = ((n + 1 : Nat) : Int) := by rw [IntWalk.i64_in _ ⟨by omega, by omega⟩]; omega
  obtain ⟨sN, hsN⟩ : ∃ s, numB N = s := ⟨_, rfl⟩
  obtain ⟨sD, hsD⟩ : ∃ s, numB D = s := ⟨_, rfl⟩
  rw [hsN, hsD] at HR
  have HSN := hid hsN; have HSD := hid hsD
  clear ha he hn hN hD hND hL c1 c2 c3 c4 dN hsN hsD
  go_enter Tryz.func193, Tryz.ntmps193
  go_wp2_with fail
  refine HR.out.mono ?_; rintro e w1 ⟨rfl, hb1⟩
  have B1 := hid hb1
  clear hb1 HR
  go_upto_region 2 with fail
  go_cut [4, 5] (fun s4 s5 wx => TwoB wx w.heap.size n s4 s5 (tabL (oneJ N D) n 0) (tabL (zeroJ N D) n 0) ∧ Below w.heap.size w wx)
  case first =>
    have X := fun (g1 g2 : Nat) (W : World) (h1 : Blk W g1 (madeCells #[.bool false] (n + 1)) 4) (h2 : Blk W g2 (madeCells #[.bool false] (n + 1)) 4) (h3 : g1 ≠ g2) (h4 : w.heap.size ≤ g1) (h5 : w.heap.size ≤ g2) => hid (show TwoB W w.heap.size n (.slice (some ⟨g1, 0, none⟩) (n + 1) (n + 1)) (.slice (some ⟨g2, 0, none⟩) (n + 1) (n + 1)) (tabL (oneJ N D) n 0) (tabL (zeroJ N D) n 0) from ⟨g1, g2, rfl, rfl, h3, h4, h5, by rw [← made_bools]; exact h1, by rw [← made_bools]; exact h2⟩)
    have M1 : ∀ W, (Instr.makeSlice 222 (.int .i64 ((n : Int) + 1)) (.int .i64 ((n : Int) + 1))).run Tryz.prog W = .ok (.slice (some ⟨W.heap.size, 0, none⟩) (n + 1) (n + 1)) (W.alloc (.cells (madeCells #[.bool false] (n + 1)) 4)) := fun W => (hM W).out
    clear hM
    go_region
    all_goals
      go_wp2_with fail
      go_meet
      first
        | exact ⟨(X w1.heap.size (w1.heap.size + 1) _ ((Blk.new w1 _ _).alloc _) (Blk.made _ _ _ (by simp)) (by omega) B1.out.size (by have := B1.out.size; omega)).out, (((B1.out.alloc B1.out.size _).alloc (by have := B1.out.size; simp; omega) _)).drew⟩
        | exact ⟨(X (w1.heap.size + 1) w1.heap.size _ (Blk.made _ _ _ (by simp)) ((Blk.new w1 _ _).alloc _) (by omega) (by have := B1.out.size; omega) B1.out.size).out, (((B1.out.alloc B1.out.size _).alloc (by have := B1.out.size; simp; omega) _)).drew⟩
  case rest =>
    obtain ⟨⟨g1, g2, rfl, rfl, h3, h4, h5, hb1, hb2⟩, hB⟩ := hcut
    have G1 := hid hb1; have G2 := hid hb2; have B2 := hid hB; have H3 := hid h3; have H4 := hid h4; have H5 := hid h5
    have k0 : wc.cell? ⟨g2, 0, none⟩ = some (.bool false) := by
      refine (hb2.cell 0).trans ?_
      rw [List.getElem?_toArray, tabL_get (Nat.zero_le _)]; simp
    have k1 := hb2.free 0
    have z0 : (0 : Int) < ((n + 1 : Nat) : Int) := by omega
    have z1 : (0 : Int) < (n : Int) + 1 := by omega
    obtain ⟨z, hz⟩ : ∃ z, (sN.toList == [48]) = z := ⟨_, rfl⟩
    have HZ : Hid (z = decide (N = 0)) := by
      show z = decide (N = 0)
      rw [← hz]
      by_cases h0 : N = 0
      · rw [← HSN.out, h0, numB_zero, lit_zero]; simp
      · rw [← HSN.out, ne_lit (l := [48]) (by rw [← numB_zero]; exact numB_ne h0)]
        simp [h0]
    clear hb1 hb2 hB hM h3 h4 h5
    go_wp2_with fail
    obtain ⟨W3, hW3⟩ : ∃ W, wc.setCell ⟨g2, 0, none⟩ (.bool z) = W := ⟨_, rfl⟩
    have G3 : Blk W3 g1 (tabL (oneJ N D) n 1).toArray 4 := by
      rw [← hW3, tabL_skip (f := oneJ N D) (j := 0) rfl]
      exact G1.out.other (fun e => H3.out e.symm) _
    have G4 : Blk W3 g2 (tabL (zeroJ N D) n 1).toArray 4 := by
      have h := G2.out.set 0 (.bool z)
      rw [hW3, List.setIfInBounds_toArray, HZ.out] at h
      have h2 := tabL_set (f := zeroJ N D) (n := n) (j := 0) (Nat.zero_le _)
      rw [← h2]
      exact h
    have B3 : Below w.heap.size w W3 := by rw [← hW3]; exact B2.out.setCell H5.out _
    rw [hW3]
    have HG3 := hid G3; have HG4 := hid G4; have HB3 := hid B3
    have e0 : Hid ((!z) = (sdx N D 0).2) := by show (!z) = _; rw [HZ.out]; simp [sdx]
    clear k0 k1 hz z0 z1 G3 G4 B3 hW3 G1 G2 B2 B1
    go_loopw [9, 10, 11] (fun o x j wr => ∃ i : Nat, j = .int .i64 ((i + 1 : Nat) : Int) ∧ i ≤ n ∧ o = .bool (sdx N D i).2 ∧ x = .string (numB (sdx N D i).1) ∧ Hid (Blk wr g1 (tabL (oneJ N D) n (i + 1)).toArray 4) ∧ Hid (Blk wr g2 (tabL (zeroJ N D) n (i + 1)).toArray 4) ∧ Hid (Below w.heap.size w wr)) (fun o x j wr => n + 1 - (intOf j).toNat)
    case atStart => exact ⟨0, rfl, Nat.zero_le _, by rw [e0.out], by rw [HSN.out.symm]; rfl, HG3.out, HG4.out, HB3.out⟩
    case round =>
      obtain ⟨i, rfl, hi, rfl, rfl, hg1, hg2, hB⟩ := hrel
      cases ho : (sdx N D i).2
      · have GG1 : Blk wr g1 (allB (oneJ N D) n).toArray 4 := by
          rw [← tabL_full (oneJ N D) n (j := n + 1) (by omega), tabL_shut (j := i + 1) (fun k hk => oneJ_shut ho k (by omega)) (n + 1) (by omega)]
          exact hg1.out
        have GG2 : Blk wr g2 (allB (zeroJ N D) n).toArray 4 := by
          rw [← tabL_full (zeroJ N D) n (j := n + 1) (by omega), tabL_shut (j := i + 1) (fun k hk => zeroJ_shut ho k (by omega)) (n + 1) (by omega)]
          exact hg2.out
        have GG1 := hid GG1; have GG2 := hid GG2
        clear ho hi
        go_wp2_with fail
        all_goals
          go_ret2
          exact ⟨⟨_, _, rfl, ⟨g1, g2, rfl, rfl, H3.out, H4.out, H5.out, GG1.out, GG2.out⟩⟩, hB.out⟩
      · by_cases hlt : i + 1 ≤ n
        · obtain ⟨X, hX⟩ : ∃ X, (sdx N D i).1 = X := ⟨_, rfl⟩
          have hXD : X < D := hX ▸ sdx_lt HND.out i
          have hs : sdx N D (i + 1) = if D ≤ 2 * X then (2 * X - D, decide (2 * X ≠ D)) else (2 * X, true) := by rw [sdx, if_pos ho, hX]
          have h1 : oneJ N D (i + 1) = decide (D ≤ 2 * X) := by rw [oneJ, ho, hX]; rfl
          have h0 : zeroJ N D (i + 1) = decide (2 * X ≤ D) := by rw [zeroJ, ho, hX]; rfl
          have p10 : (10 : Nat) ^ (eN + 1) = 10 * 10 ^ eN := by rw [Nat.pow_succ, Nat.mul_comm]
          have q10 := C4.out
          have d1 : nDigits X ≤ 4000 := DN.out X (by omega)
          have d2 : nDigits (X + X) ≤ 4000 := DN.out _ (by omega)
          have d3 : nDigits D ≤ 4000 := DN.out _ (by omega)
          have HPL := fun V hV => hid (p_plus V X X d1 d1 d2 hV)
          have HCM := fun V => hid (p_cmp V (X + X) D d2 d3)
          rw [HSD.out] at HCM
          rw [hX]
          have k1 : wr.cell? ⟨g1, i + 1, none⟩ = some (.bool false) := by
            refine (hg1.out.cell (i + 1)).trans ?_
            rw [List.getElem?_toArray, tabL_get hlt]; simp
          have k2 : wr.cell? ⟨g2, i + 1, none⟩ = some (.bool false) := by
            refine (hg2.out.cell (i + 1)).trans ?_
            rw [List.getElem?_toArray, tabL_get hlt]; simp
          have f0 : (0 : Int) ≤ ((i + 1 : Nat) : Int) := by omega
          have f1 : ((i + 1 : Nat) : Int) < ((n + 1 : Nat) : Int) := by omega
          have f2 : decide (((i + 1 : Nat) : Int) ≤ (n : Int)) = true := by simp; omega
          have f3 : ((i + 1 : Nat) : Int) ≤ 1000 := by have := HN.out; omega
          have f4 : (i : Int) ≤ 1000 := by have := HN.out; omega
          have HLT := hid hlt
          rcases Nat.lt_trichotomy (X + X) D with hc | hc | hc
          · rw [ordN_lt hc] at HCM
            have HS := hid (show sdx N D (i + 1) = (X + X, true) from by rw [hs, if_neg (by omega), Nat.two_mul])
            have T1 := hid (tabL_skip (n := n) (show oneJ N D (i + 1) = false from by rw [h1]; simp; omega))
            have T0 := hid (tabL_set (f := zeroJ N D) hlt)
            have HZ0 := hid (show zeroJ N D (i + 1) = true from by rw [h0]; simp; omega)
            clear hc hs h1 h0 p10 q10 d1 d2 d3 hX hXD ho hi
            go_wp2_with fail
            refine (HPL _ (HL.out.below hB.out HLL.out)).out.mono ?_; rintro e w5 ⟨rfl, hb5⟩
            have G15 := hid (hg1.out.call hb5); have G25 := hid (hg2.out.call hb5); have B5 := hid (hB.out.trans (hb5.mono hB.out.size))
            clear hb5
            go_wp2_with fail
            refine (HCM _).out.mono ?_; rintro e w6 ⟨rfl, hb6⟩
            have G16 := hid (G15.out.call hb6); have G26 := hid (G25.out.call hb6); have B6 := hid (B5.out.trans (hb6.mono B5.out.size))
            have m1 : w6.cell? ⟨g1, i + 1, none⟩ = some (.bool false) := by
              refine (G16.out.cell (i + 1)).trans ?_
              rw [List.getElem?_toArray, tabL_get hlt]; simp
            have m2 : w6.cell? ⟨g2, i + 1, none⟩ = some (.bool false) := by
              refine (G26.out.cell (i + 1)).trans ?_
              rw [List.getElem?_toArray, tabL_get hlt]; simp
            have m3 := G16.out.free (i + 1)
            have m4 := G26.out.free (i + 1)
            clear hb6 hlt k1 k2
            go_wp2_with fail
            go_roundw
            case rel =>
              refine ⟨i + 1, by go_num, HLT.out, by rw [HS.out], by rw [HS.out], ?_, ?_, B6.out.setCell H5.out _⟩
              · show Blk _ _ _ _
                rw [T1.out]
                exact G16.out.other (fun e => H3.out e.symm) _
              · show Blk _ _ _ _
                rw [← T0.out, HZ0.out]
                have h := G26.out.set (i + 1) (.bool true)
                rw [List.setIfInBounds_toArray] at h
                exact h
            case measure => simp [intOf] <;> (have := HLT.out; omega)
          · rw [show ordN (X + X) D = 0 from by rw [hc, ordN_eq]] at HCM
            have hle : D ≤ X + X := by omega
            have HSU := fun V hV => hid (p_sub V (X + X) D d2 d3 hle hV)
            rw [HSD.out] at HSU
            have HS := hid (show sdx N D (i + 1) = (X + X - D, false) from by rw [hs, if_pos (by omega), Nat.two_mul]; simp; omega)
            have T1 := hid (tabL_set (f := oneJ N D) hlt)
            have HZ1 := hid (show oneJ N D (i + 1) = true from by rw [h1]; simp; omega)
            have T0 := hid (tabL_set (f := zeroJ N D) hlt)
            have HZ0 := hid (show zeroJ N D (i + 1) = true from by rw [h0]; simp; omega)
            clear hc hs h1 h0 p10 q10 d1 d2 d3 hX hXD ho hi hle
            go_wp2_with fail
            refine (HPL _ (HL.out.below hB.out HLL.out)).out.mono ?_; rintro e w5 ⟨rfl, hb5⟩
            have G15 := hid (hg1.out.call hb5); have G25 := hid (hg2.out.call hb5); have B5 := hid (hB.out.trans (hb5.mono hB.out.size))
            clear hb5
            go_wp2_with fail
            refine (HCM _).out.mono ?_; rintro e w6 ⟨rfl, hb6⟩
            have G16 := hid (G15.out.call hb6); have G26 := hid (G25.out.call hb6); have B6 := hid (B5.out.trans (hb6.mono B5.out.size))
            have m1 : w6.cell? ⟨g1, i + 1, none⟩ = some (.bool false) := by
              refine (G16.out.cell (i + 1)).trans ?_
              rw [List.getElem?_toArray, tabL_get hlt]; simp
            have m2 : w6.cell? ⟨g2, i + 1, none⟩ = some (.bool false) := by
              refine (G26.out.cell (i + 1)).trans ?_
              rw [List.getElem?_toArray, tabL_get hlt]; simp
            have m3 := G16.out.free (i + 1)
            have m4 := G26.out.free (i + 1)
            clear hb6 hlt k1 k2
            go_wp2_with fail
            refine (HSU _ (HL.out.below B6.out HLL.out)).out.mono ?_; rintro e w7 ⟨rfl, hb7⟩
            have G17 := hid (G16.out.call hb7); have G27 := hid (G26.out.call hb7); have B7 := hid (B6.out.trans (hb7.mono B6.out.size))
            have n1 := (hb7.cell (cell_lt m1)).trans m1
            have n3 := G17.out.free (i + 1)
            have n2 : (w7.setCell ⟨g1, i + 1, none⟩ (.bool true)).cell? ⟨g2, i + 1, none⟩ = some (.bool false) := ((G27.out.other (fun e => H3.out e) (.bool true)).cell (i + 1)).trans (by rw [List.getElem?_toArray, tabL_get HLT.out]; simp)
            have n4 : (w7.setCell ⟨g1, i + 1, none⟩ (.bool true)).frozen? ⟨g2, i + 1, none⟩ = false := (G27.out.other (a := ⟨g1, i + 1, none⟩) (fun e => H3.out e) (.bool true)).free (i + 1)
            clear hb7 m1 m2 m3 m4
            go_wp2_with fail
            go_roundw
            case rel =>
              refine ⟨i + 1, by go_num, HLT.out, by rw [HS.out], by rw [HS.out], ?_, ?_, ((B7.out.setCell H4.out _).setCell H5.out _)⟩
              · show Blk _ _ _ _
                rw [← T1.out, HZ1.out]
                have h := (G17.out.set (i + 1) (.bool true)).other (a := ⟨g2, i + 1, none⟩) (fun e => H3.out e.symm) (.bool true)
                rw [List.setIfInBounds_toArray] at h
                exact h
              · show Blk _ _ _ _
                rw [← T0.out, HZ0.out]
                have h := (G27.out.other (a := ⟨g1, i + 1, none⟩) (fun e => H3.out e) (.bool true)).set (i + 1) (.bool true)
                rw [List.setIfInBounds_toArray] at h
                exact h
            case measure => simp [intOf] <;> (have := HLT.out; omega)
          · rw [ordN_gt hc] at HCM
            have hle : D ≤ X + X := by omega
            have HSU := fun V hV => hid (p_sub V (X + X) D d2 d3 hle hV)
            rw [HSD.out] at HSU
            have HS := hid (show sdx N D (i + 1) = (X + X - D, true) from by rw [hs, if_pos (by omega), Nat.two_mul]; simp; omega)
            have T1 := hid (tabL_set (f := oneJ N D) hlt)
            have HZ1 := hid (show oneJ N D (i + 1) = true from by rw [h1]; simp; omega)
            have T0 := hid (tabL_set (f := zeroJ N D) hlt)
            have HZ0 := hid (show zeroJ N D (i + 1) = false from by rw [h0]; simp; omega)
            clear hc hs h1 h0 p10 q10 d1 d2 d3 hX hXD ho hi hle
            go_wp2_with fail
            refine (HPL _ (HL.out.below hB.out HLL.out)).out.mono ?_; rintro e w5 ⟨rfl, hb5⟩
            have G15 := hid (hg1.out.call hb5); have G25 := hid (hg2.out.call hb5); have B5 := hid (hB.out.trans (hb5.mono hB.out.size))
            clear hb5
            go_wp2_with fail
            refine (HCM _).out.mono ?_; rintro e w6 ⟨rfl, hb6⟩
            have G16 := hid (G15.out.call hb6); have G26 := hid (G25.out.call hb6); have B6 := hid (B5.out.trans (hb6.mono B5.out.size))
            have m1 : w6.cell? ⟨g1, i + 1, none⟩ = some (.bool false) := by
              refine (G16.out.cell (i + 1)).trans ?_
              rw [List.getElem?_toArray, tabL_get hlt]; simp
            have m2 : w6.cell? ⟨g2, i + 1, none⟩ = some (.bool false) := by
              refine (G26.out.cell (i + 1)).trans ?_
              rw [List.getElem?_toArray, tabL_get hlt]; simp
            have m3 := G16.out.free (i + 1)
            have m4 := G26.out.free (i + 1)
            clear hb6 hlt k1 k2
            go_wp2_with fail
            refine (HSU _ (HL.out.below B6.out HLL.out)).out.mono ?_; rintro e w7 ⟨rfl, hb7⟩
            have G17 := hid (G16.out.call hb7); have G27 := hid (G26.out.call hb7); have B7 := hid (B6.out.trans (hb7.mono B6.out.size))
            have n1 := (hb7.cell (cell_lt m1)).trans m1
            have n3 := G17.out.free (i + 1)
            have n2 : (w7.setCell ⟨g1, i + 1, none⟩ (.bool true)).cell? ⟨g2, i + 1, none⟩ = some (.bool false) := ((G27.out.other (fun e => H3.out e) (.bool true)).cell (i + 1)).trans (by rw [List.getElem?_toArray, tabL_get HLT.out]; simp)
            have n4 : (w7.setCell ⟨g1, i + 1, none⟩ (.bool true)).frozen? ⟨g2, i + 1, none⟩ = false := (G27.out.other (a := ⟨g1, i + 1, none⟩) (fun e => H3.out e) (.bool true)).free (i + 1)
            clear hb7 m1 m2 m3 m4
            go_wp2_with fail
            go_roundw
            case rel =>
              refine ⟨i + 1, by go_num, HLT.out, by rw [HS.out], by rw [HS.out], ?_, ?_, ((B7.out.setCell H4.out _).setCell H5.out _)⟩
              · show Blk _ _ _ _
                rw [← T1.out, HZ1.out]
                have h := (G17.out.set (i + 1) (.bool true)).other (a := ⟨g2, i + 1, none⟩) (fun e => H3.out e.symm) (.bool false)
                rw [List.setIfInBounds_toArray] at h
                exact h
              · show Blk _ _ _ _
                rw [← T0.out, HZ0.out]
                have h := (G27.out.other (a := ⟨g1, i + 1, none⟩) (fun e => H3.out e) (.bool true)).set (i + 1) (.bool false)
                rw [List.setIfInBounds_toArray] at h
                exact h
            case measure => simp [intOf] <;> (have := HLT.out; omega)
        · have e1 : i = n := by omega
          subst e1
          have f2 : decide (((i + 1 : Nat) : Int) ≤ (i : Int)) = false := by simp; omega
          have GG1 : Blk wr g1 (allB (oneJ N D) i).toArray 4 := by
            rw [← tabL_full (oneJ N D) i (j := i + 1) (by omega)]
            exact hg1.out
          have GG2 : Blk wr g2 (allB (zeroJ N D) i).toArray 4 := by
            rw [← tabL_full (zeroJ N D) i (j := i + 1) (by omega)]
            exact hg2.out
          have GG1 := hid GG1; have GG2 := hid GG2
          clear ho hi hlt
          go_wp2_with fail
          go_ret2
          exact ⟨⟨_, _, rfl, ⟨g1, g2, rfl, rfl, H3.out, H4.out, H5.out, GG1.out, GG2.out⟩⟩, hB.out⟩
end Go.Proofs.YtgphopkifomffaaGreatDoor
