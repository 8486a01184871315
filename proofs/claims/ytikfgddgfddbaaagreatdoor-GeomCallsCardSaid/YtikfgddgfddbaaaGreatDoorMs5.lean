/- Walks: coin.Draw. -/
import Derived.Test.YtikfgddgfddbaaaGreatDoorMs4
import Derived.Deep.LoopGhost
import Derived.RangeFuncBox
import Derived.Scope
import Derived.Shelf.Bits.Mul64
import Derived.Ground.NamesProg
import Derived.Test.YtikfgddgfddbaaaGreatDoorProg
namespace Go.Proofs.YtikfgddgfddbaaaGreatDoor
open Go.RowKit Go.Shelf
open Go.Lib (decDigits nDigits)
set_option linter.unusedVariables false
set_option linter.unusedSimpArgs false

/-- A draw's value. -/
def drawV (x : Bool × Nat × Nat) : Value := .agg #[.bool x.1, .int .i64 (x.2.1 : Nat), .int .i64 (x.2.2 : Nat)]

/-- The states that the loop goes through. -/
def lookV (g : Nat) : Value := .func (.func 27) #[.pointer (some ⟨g, 0, none⟩)] #[]
def readV (g : Nat) : Value := .func (.func 54) #[.pointer (some ⟨g, 0, none⟩)] #[]

def usedOf (w : World) (g : Nat) : Nat := match w.cell? ⟨g, 6, none⟩ with | some (.int _ u) => u.toNat | _ => 0
def drawM (n g : Nat) (nx : Value) (w : World) : Nat := match nx with
  | .func (.func f) _ _ => 2 * (n - usedOf w g) + (if f = 27 then 2 else 1)
  | _ => 0

/-- What the loop holds. -/
def DrawI (g bn bd : Nat) (b : ByteArray) (N D : Nat) (nx : Value) (w : World) : Prop :=
  (∃ K T u, nx = lookV g ∧ Toss w g bn bd b N D K T u ∧ Cell K T u ∧ u ≤ b.size ∧ tossAt N D b.data.toList 0 1 0 = tossAt N D b.data.toList K T u) ∨
  (∃ K T u, nx = readV g ∧ Toss w g bn bd b N D K T u ∧ Cell K T u ∧ u < b.size ∧ sdB N D K T = false ∧ tossAt N D b.data.toList 0 1 0 = tossAt N D b.data.toList K T u) ∨
  (∃ (k t : ByteArray) (x : Bool × Nat × Nat), nx = .nilFunc ∧ Blk w g (tossC b k t bn bd x.1 (x.2.1 : Nat) (x.2.2 : Nat)) 44 ∧ x = tossAt N D b.data.toList 0 1 0)

theorem usedOf_blk {w : World} {g bn bd : Nat} {b k t : ByteArray} {d : Bool} {v : Int} {u : Nat} (h : Blk w g (tossC b k t bn bd d v u) 44) : usedOf w g = u := by
  have h6 : w.cell? ⟨g, 6, none⟩ = some (.int .i64 (u : Int)) := h.cell 6
  unfold usedOf
  rw [h6]
  simp

theorem drawM_look {n g : Nat} {w : World} : drawM n g (lookV g) w = 2 * (n - usedOf w g) + 2 := by simp [drawM, lookV]
theorem drawM_read {n g : Nat} {w : World} : drawM n g (readV g) w = 2 * (n - usedOf w g) + 1 := by simp [drawM, readV]

theorem neq_nil (fn : Fn) (bs cs : Array Value) (W : World) : (binOp BinOp.neq 46 (.func fn bs cs) .nilFunc).run Tryz.prog W = .ok (.bool true) W := by
  kernel_rfl
theorem neq_nil2 (W : World) : (binOp BinOp.neq 46 .nilFunc .nilFunc).run Tryz.prog W = .ok (.bool false) W := by
  kernel_rfl

set_option maxRecDepth 100000 in
set_option maxHeartbeats 2000000 in
theorem c_Draw_ok (w : World) (p b : ByteArray) (hp : p.size ≤ 100000) (hb : b.size ≤ 256) (hc : chkE b = 0) (he : cPE p = 0) (hL : Lay w) :
    Calls Tryz.prog 9 #[.string p, .string b] w fun e w' => e = .returned (.tuple #[drawV (tossAt (bN (cW p)) (bN (qD p)) b.data.toList 0 1 0), .int .i64 0]) ∧ Below w.heap.size w w' := by
  have HP := fun V hV => hid (c_parts V p hp hV)
  rw [he] at HP
  simp only [if_true] at HP
  have HC := fun V => hid (c_checked V b (by omega))
  rw [hc] at HC
  obtain ⟨e1, e2, hN, hD, hle⟩ := cPE_ok he
  obtain ⟨N, hn⟩ : ∃ N, bN (cW p) = N := ⟨_, rfl⟩
  obtain ⟨D, hd⟩ : ∃ D, bN (qD p) = D := ⟨_, rfl⟩
  rw [hn] at e1 hN
  rw [hd] at e2 hD
  rw [e1, e2] at HP
  rw [hn, hd]
  have HN := hid hN; have HD := hid hD; have HL := hid hL; have HB := hid hb
  have z0 := numB_of (s := (⟨#[48]⟩ : ByteArray)) rfl
  clear hn hd e1 e2 hN hD hle hL hc he hp
  obtain ⟨sn, hsn⟩ : ∃ s, numB N = s := ⟨_, rfl⟩
  obtain ⟨sd, hsd⟩ : ∃ s, numB D = s := ⟨_, rfl⟩
  rw [hsn, hsd] at HP
  have HSN := hid hsn; have HSD := hid hsd
  clear hsn hsd z0 hb
  have e27 : ∀ args w, (callFunc 27 args).run Tryz.prog w = .ok (.enter 27 args) w := enters_of Tryz.func27 (by kernel_rfl) rfl
  have e54 : ∀ args w, (callFunc 54 args).run Tryz.prog w = .ok (.enter 54 args) w := enters_of Tryz.func54 (by kernel_rfl) rfl
  go_enter Tryz.func9, Tryz.ntmps9
  go_wp2_with fail
  refine (HP _ (HL.out.call ((Below.refl _ _).alloc (Nat.le_refl _) _))).out.mono ?_; rintro e w1 ⟨rfl, hb1⟩
  have x1 := hid ((Blk.new w #[.bool false, .int .i64 0, .int .i64 0] 26).call hb1)
  have y1 := hid (bnext ((Below.refl w.heap.size w).alloc (Nat.le_refl _) (.cells #[.bool false, .int .i64 0, .int .i64 0] 26)) hb1)
  clear hb1
  go_wp2_with fail
  refine (HC _).out.mono ?_; rintro e w2 ⟨rfl, hb2⟩
  have x2 := hid (x1.out.call hb2)
  have y2 := hid (bnext y1.out hb2)
  clear hb2
  go_wp2_with fail
  refine (c_sides _ _ _).mono ?_; rintro e w3 ⟨rfl, rfl⟩
  go_wp2_with fail
  have hsz2 : w2.heap.size = w2.heap.size := rfl
  obtain ⟨g, hg⟩ : ∃ g, g = w2.heap.size + 1 + 1 := ⟨_, rfl⟩
  obtain ⟨bn, hbn⟩ : ∃ g, g = w2.heap.size := ⟨_, rfl⟩
  obtain ⟨bd, hbd⟩ : ∃ g, g = w2.heap.size + 1 := ⟨_, rfl⟩
  obtain ⟨W0, hW0⟩ : ∃ W0, (((w2.alloc (Obj.cells #[Value.string sn] 22)).alloc (Obj.cells #[Value.string sd] 22)).alloc
      (Obj.cells #[Value.string b, Value.string { data := #[48] }, Value.string { data := #[49] }, Value.func (Fn.func 51) #[] #[Value.pointer (some { block := w2.heap.size, off := 0 }), Value.pointer (some { block := w2.heap.size + 1, off := 0 })], Value.bool false, Value.int IntKind.i64 0, Value.int IntKind.i64 0] 44)) = W0 := ⟨_, rfl⟩
  rw [hW0, ← hg, ← hbd, ← hbn]
  have t0 : Toss W0 g bn bd b N D 0 1 0 := by
    refine ⟨?_, ?_, ?_, by omega, by omega⟩
    · rw [← hW0, hbn, hbd]
      have e0 : numB 0 = ⟨#[48]⟩ := by unfold numB; rw [dec_zero]
      have e1 : numB 1 = ⟨#[49]⟩ := by unfold numB; rw [dec_one]
      rw [e0, e1]
      exact Blk.made _ _ _ (by simp; omega)
    · rw [← hW0, HSN.out, hbn]
      exact ((Blk.new w2 _ _).alloc _).alloc _
    · rw [← hW0, HSD.out, hbd]
      exact (Blk.made _ _ _ (by simp)).alloc _
  have b0 : Below w2.heap.size w2 W0 := by
    rw [← hW0]
    exact (((Below.refl _ _).alloc (Nat.le_refl _) _).alloc (by simp) _).alloc (by simp; omega) _
  have HG := hid hg
  have hLG : LayLt g := by
    have h1 := (HL.out.call y2.out).lt
    exact ⟨by have := h1.1; omega, by have := h1.2; omega⟩
  have HLG := hid hLG
  have T0 := hid t0
  have B0 := hid b0
  clear hW0 hg hbn hbd t0 b0 hsz2 HP HC hLG
  have hq1 := fun (fn : Fn) (bs cs : Array Value) (W : World) => neq_nil fn bs cs W
  have hq2 := fun (W : World) => neq_nil2 W
  go_loopw [10] (fun nx wr => DrawI g bn bd b N D nx wr ∧ Hid (Below w2.heap.size w2 wr)) (fun nx wr => drawM b.size g nx wr)
  case atStart => exact ⟨.inl ⟨0, 1, 0, rfl, T0.out, ⟨rfl, by omega⟩, by omega, rfl⟩, B0.out⟩
  case round =>
    obtain ⟨hI, hB⟩ := hrel
    rcases hI with ⟨K, T, u, rfl, ht, hc, hu, heq⟩ | ⟨K, T, u, rfl, ht, hc, hu, hsb, heq⟩ | ⟨k, t, x, rfl, hbk, hx⟩
    · have HT := hid ht; have HCl := hid hc; have HU := hid hu; have HE := hid heq
      have HM := hid (usedOf_blk ht.blk)
      clear ht hc hu heq
      simp only [lookV]
      go_wp2_with fail
      refine (c_look _ g bn bd b N D K T u HT.out (HCl.out.fits (by have := HU.out; have := HB.out; omega) HN.out HD.out) ((HL.out.call y2.out).call hB.out) (by have := HB.out; omega) HU.out).mono ?_
      rintro e w5 ⟨hb5, hcases⟩
      have B5 := hid (hB.out.trans (hb5.mono (by have := HG.out; omega)))
      clear hb5
      rcases hcases with ⟨h1, rfl, h2⟩ | ⟨h1, h3, rfl, h2⟩ | ⟨h1, h3, rfl, h2⟩
      · have K1 := hid h1; have K2 := hid h2
        clear h1 h2
        go_wp2_with fail
        go_roundw
        case rel => exact ⟨.inr (.inr ⟨_, _, (true, sdV N D K T, u), rfl, K2.out, by rw [HE.out, tossAt_done K1.out]⟩), B5⟩
        case measure => exact (by show drawM b.size g .nilFunc _ < drawM b.size g (lookV g) _; rw [drawM_look]; simp [drawM])
      · have K1 := hid h1; have K2 := hid h2; have K3 := hid h3
        clear h1 h2 h3
        go_wp2_with fail
        go_roundw
        case rel => exact ⟨.inr (.inr ⟨_, _, (false, 0, u), rfl, K2.out.blk, by rw [HE.out, K3.out, ← list_size, tossAt_late K1.out]⟩), B5⟩
        case measure => exact (by show drawM b.size g .nilFunc _ < drawM b.size g (lookV g) _; rw [drawM_look]; simp [drawM])
      · have K1 := hid h1; have K2 := hid h2; have K3 := hid h3
        clear h1 h2 h3
        go_wp2_with fail
        go_roundw
        case rel => exact ⟨.inr (.inl ⟨K, T, u, rfl, K2.out, HCl.out, K3.out, K1.out, HE.out⟩), B5⟩
        case measure => exact (by show drawM b.size g (readV g) _ < drawM b.size g (lookV g) _; rw [drawM_look, drawM_read, HM.out, usedOf_blk K2.out.blk]; omega)
    · have HT := hid ht; have HCl := hid hc; have HU := hid hu; have HE := hid heq; have HSB := hid hsb
      have HM := hid (usedOf_blk ht.blk)
      clear ht hc hu heq hsb
      simp only [readV]
      go_wp2_with fail
      refine (c_read _ g bn bd b N D K T u HT.out (HCl.out.fits (by have := HU.out; have := HB.out; omega) HN.out HD.out) ((HL.out.call y2.out).call hB.out) (by have := HB.out; omega) HU.out HLG.out).mono ?_
      rintro e w5 ⟨hb5, rfl, h2⟩
      have B5 := hid (hB.out.trans (hb5.mono (by have := HG.out; omega)))
      have K2 := hid h2
      clear hb5 h2
      go_wp2_with fail
      go_roundw
      case rel => exact ⟨.inl ⟨_, _, u + 1, rfl, K2.out, HCl.out.next (by split <;> omega), HU.out, by
        rw [HE.out]
        exact tossAt_next HSB.out (by rw [list_size]; exact HU.out)⟩, B5⟩
      case measure => exact (by show drawM b.size g (lookV g) _ < drawM b.size g (readV g) _; rw [drawM_look, drawM_read, HM.out, usedOf_blk K2.out.blk]; have := HU.out; omega)
    · have HK := hid hbk; have HX := hid hx
      have x3 := hid (x2.out.call hB.out)
      have d4 : wr.cell? ⟨g, 4, none⟩ = some (.bool x.1) := hbk.cell 4
      have d5 : wr.cell? ⟨g, 5, none⟩ = some (.int .i64 (x.2.1 : Nat)) := hbk.cell 5
      have d6 : wr.cell? ⟨g, 6, none⟩ = some (.int .i64 (x.2.2 : Nat)) := hbk.cell 6
      have r0 : wr.cell? ⟨w.heap.size, 0, none⟩ = some (.bool false) := x3.out.cell 0
      have r1 : wr.cell? ⟨w.heap.size, 1, none⟩ = some (.int .i64 0) := x3.out.cell 1
      have r2 : wr.cell? ⟨w.heap.size, 2, none⟩ = some (.int .i64 0) := x3.out.cell 2
      have f0 := x3.out.free 0
      have f1 := x3.out.free 1
      have f2 := x3.out.free 2
      clear hbk hx
      go_wp2_with fail
      have s3 := ((x3.out.set 0 (.bool x.1)).set 1 (.int .i64 (x.2.1 : Nat))).set 2 (.int .i64 (x.2.2 : Nat))
      have k0 := s3.cell 0
      have k1 := s3.cell 1
      have k2 := s3.cell 2
      simp at k0 k1 k2
      refine bodyPost_ret (v := .tuple #[.agg #[.bool x.1, .int .i64 (x.2.1 : Nat), .int .i64 (x.2.2 : Nat)], .int .i64 0]) (by simp [results, Tryz.results9, go_sem, k0, k1, k2]) rfl ⟨by rw [← HX.out]; rfl, ?_⟩
      exact (((y2.out.trans (hB.out.mono y2.out.size)).setCell (Nat.le_refl _) _).setCell (Nat.le_refl _) _).setCell (Nat.le_refl _) _

set_option maxRecDepth 100000 in
set_option maxHeartbeats 1000000 in
theorem c_Draw_bad (w : World) (p b : ByteArray) (hp : p.size ≤ 100000) (hb : b.size ≤ 100000) (x : Int) (hx : x ≠ 0) (he : (cPE p ≠ 0 ∧ x = cPE p) ∨ (cPE p = 0 ∧ x = chkE b)) (hL : Lay w) :
    Calls Tryz.prog 9 #[.string p, .string b] w fun e w' => e = .returned (.tuple #[drawV (false, 0, 0), .int .i64 x]) ∧ Below w.heap.size w w' := by
  have HP := fun V hV => hid (c_parts V p hp hV)
  have HC := fun V => hid (c_checked V b (by omega))
  have HL := hid hL
  have q0 : (x == 0) = false := by simpa using hx
  have q1 : (x != 0) = true := by simpa using hx
  rcases he with ⟨h1, rfl⟩ | ⟨h1, rfl⟩
  · obtain ⟨x, hx2⟩ : ∃ x, cPE p = x := ⟨_, rfl⟩
    rw [hx2] at HP h1 q0 q1
    rw [hx2]
    simp only [h1, if_false] at HP
    clear hx hx2 h1 hL
    go_enter Tryz.func9, Tryz.ntmps9
    go_wp2_with fail
    refine (HP _ (HL.out.call ((Below.refl _ _).alloc (Nat.le_refl _) _))).out.mono ?_; rintro e w1 ⟨rfl, hb1⟩
    have x1 := hid ((Blk.new w #[.bool false, .int .i64 0, .int .i64 0] 26).call hb1)
    have y1 := hid (bnext ((Below.refl w.heap.size w).alloc (Nat.le_refl _) (.cells #[.bool false, .int .i64 0, .int .i64 0] 26)) hb1)
    have r0 : w1.cell? ⟨w.heap.size, 0, none⟩ = some (.bool false) := x1.out.cell 0
    have r1 : w1.cell? ⟨w.heap.size, 1, none⟩ = some (.int .i64 0) := x1.out.cell 1
    have r2 : w1.cell? ⟨w.heap.size, 2, none⟩ = some (.int .i64 0) := x1.out.cell 2
    have f0 := x1.out.free 0
    have f1 := x1.out.free 1
    have f2 := x1.out.free 2
    clear hb1
    go_wp2_with fail
    have s3 := ((x1.out.set 0 (.bool false)).set 1 (.int .i64 0)).set 2 (.int .i64 0)
    have k0 := s3.cell 0
    have k1 := s3.cell 1
    have k2 := s3.cell 2
    simp at k0 k1 k2
    refine bodyPost_ret (v := .tuple #[.agg #[.bool false, .int .i64 0, .int .i64 0], .int .i64 x]) (by simp [results, Tryz.results9, go_sem, k0, k1, k2]) rfl ⟨rfl, ?_⟩
    exact ((y1.out.setCell (Nat.le_refl _) _).setCell (Nat.le_refl _) _).setCell (Nat.le_refl _) _
  · obtain ⟨x, hx2⟩ : ∃ x, chkE b = x := ⟨_, rfl⟩
    rw [hx2] at HC q0 q1
    rw [hx2]
    rw [h1] at HP
    simp only [if_true] at HP
    obtain ⟨sn, hsn⟩ : ∃ s, cW p = s := ⟨_, rfl⟩
    obtain ⟨sd, hsd⟩ : ∃ s, qD p = s := ⟨_, rfl⟩
    rw [hsn, hsd] at HP
    clear hx hx2 h1 hL hsn hsd
    go_enter Tryz.func9, Tryz.ntmps9
    go_wp2_with fail
    refine (HP _ (HL.out.call ((Below.refl _ _).alloc (Nat.le_refl _) _))).out.mono ?_; rintro e w1 ⟨rfl, hb1⟩
    have x1 := hid ((Blk.new w #[.bool false, .int .i64 0, .int .i64 0] 26).call hb1)
    have y1 := hid (bnext ((Below.refl w.heap.size w).alloc (Nat.le_refl _) (.cells #[.bool false, .int .i64 0, .int .i64 0] 26)) hb1)
    clear hb1
    go_wp2_with fail
    refine (HC _).out.mono ?_; rintro e w2 ⟨rfl, hb2⟩
    have x2 := hid (x1.out.call hb2)
    have y2 := hid (bnext y1.out hb2)
    have r0 : w2.cell? ⟨w.heap.size, 0, none⟩ = some (.bool false) := x2.out.cell 0
    have r1 : w2.cell? ⟨w.heap.size, 1, none⟩ = some (.int .i64 0) := x2.out.cell 1
    have r2 : w2.cell? ⟨w.heap.size, 2, none⟩ = some (.int .i64 0) := x2.out.cell 2
    have f0 := x2.out.free 0
    have f1 := x2.out.free 1
    have f2 := x2.out.free 2
    clear hb2
    go_wp2_with fail
    have s3 := ((x2.out.set 0 (.bool false)).set 1 (.int .i64 0)).set 2 (.int .i64 0)
    have k0 := s3.cell 0
    have k1 := s3.cell 1
    have k2 := s3.cell 2
    simp at k0 k1 k2
    refine bodyPost_ret (v := .tuple #[.agg #[.bool false, .int .i64 0, .int .i64 0], .int .i64 x]) (by simp [results, Tryz.results9, go_sem, k0, k1, k2]) rfl ⟨rfl, ?_⟩
    exact ((y2.out.setCell (Nat.le_refl _) _).setCell (Nat.le_refl _) _).setCell (Nat.le_refl _) _
end Go.Proofs.YtikfgddgfddbaaaGreatDoor

/- Walks: geom.check, geom.coins. -/
namespace Go.Proofs.YtikfgddgfddbaaaGreatDoor
open Go.RowKit Go.Shelf
open Go.Lib (decDigits nDigits)
set_option linter.unusedVariables false
set_option linter.unusedSimpArgs false

/-- The error of a ratio and a bit string. -/
def gE (a b : ByteArray) : Int := if gPE a ≠ 0 then gPE a else chkE b

set_option maxRecDepth 100000 in
set_option maxHeartbeats 1000000 in
theorem g_check (w : World) (a b : ByteArray) (ha : a.size ≤ 100000) (hb : b.size ≤ 100000) (hL : Lay w) :
    Calls Tryz.prog 46 #[.string a, .string b] w fun e w' => e = .returned (.int .i64 (gE a b)) ∧ Below w.heap.size w w' := by
  have HR := hid (g_ratio w a ha hL)
  have HC := fun V => hid (b_Check V b (by omega))
  obtain ⟨s1, hs1⟩ : ∃ s, (if gPE a = 0 then cW a else ⟨#[]⟩) = s := ⟨_, rfl⟩
  obtain ⟨s2, hs2⟩ : ∃ s, (if gPE a = 0 then qD a else ⟨#[]⟩) = s := ⟨_, rfl⟩
  rw [hs1, hs2] at HR
  clear hs1 hs2
  by_cases h1 : gPE a = 0
  · have e1 : gE a b = chkE b := by rw [gE, if_neg (fun h => h h1)]
    rw [e1]
    rw [h1] at HR
    by_cases h2 : bitB b = true
    · have e2 : bitE b = 0 := if_pos h2
      rw [e2] at HC
      by_cases h3 : 256 < b.size
      · have e3 : chkE b = 4 := by rw [chkE, if_pos h2, if_pos h3]
        have q0 : decide ((256 : Int) < (b.size : Int)) = true := by simp; omega
        rw [e3]
        clear h1 h2 h3 e1 e2 e3 hL
        go_enter Tryz.func46, Tryz.ntmps46
        go_wp2_with fail
        refine HR.out.mono ?_; rintro e w1 ⟨rfl, hb1⟩
        have y1 := hid hb1; clear hb1
        go_wp2_with fail
        refine (HC _).out.mono ?_; rintro e w2 ⟨rfl, hb2⟩
        have y2 := hid (bnext y1.out hb2); clear hb2
        go_wp2_with fail
        go_ret
        exact ⟨rfl, y2.out⟩
      · have e3 : chkE b = 0 := by rw [chkE, if_pos h2, if_neg h3]
        have q0 : decide ((256 : Int) < (b.size : Int)) = false := by simp; omega
        rw [e3]
        clear h1 h2 h3 e1 e2 e3 hL
        go_enter Tryz.func46, Tryz.ntmps46
        go_wp2_with fail
        refine HR.out.mono ?_; rintro e w1 ⟨rfl, hb1⟩
        have y1 := hid hb1; clear hb1
        go_wp2_with fail
        refine (HC _).out.mono ?_; rintro e w2 ⟨rfl, hb2⟩
        have y2 := hid (bnext y1.out hb2); clear hb2
        go_wp2_with fail
        go_ret
        exact ⟨rfl, y2.out⟩
    · have e2 : bitE b = 3 := if_neg h2
      have e3 : chkE b = 3 := if_neg h2
      rw [e2] at HC
      rw [e3]
      clear h1 h2 e1 e2 e3 hL
      go_enter Tryz.func46, Tryz.ntmps46
      go_wp2_with fail
      refine HR.out.mono ?_; rintro e w1 ⟨rfl, hb1⟩
      have y1 := hid hb1; clear hb1
      go_wp2_with fail
      refine (HC _).out.mono ?_; rintro e w2 ⟨rfl, hb2⟩
      have y2 := hid (bnext y1.out hb2); clear hb2
      go_wp2_with fail
      go_ret
      exact ⟨rfl, y2.out⟩
  · have e1 : gE a b = gPE a := by rw [gE, if_pos h1]
    rw [e1]
    obtain ⟨x, hx⟩ : ∃ x, gPE a = x := ⟨_, rfl⟩
    rw [hx] at HR h1 ⊢
    have q0 : (x == 0) = false := by simpa using h1
    have q1 : (x != 0) = true := by simpa using h1
    clear h1 e1 hx hL
    go_enter Tryz.func46, Tryz.ntmps46
    go_wp2_with fail
    refine HR.out.mono ?_; rintro e w1 ⟨rfl, hb1⟩
    have y1 := hid hb1; clear hb1
    go_wp2_with fail
    go_ret
    exact ⟨rfl, y1.out⟩

set_option maxRecDepth 100000 in
set_option maxHeartbeats 1000000 in
theorem g_coins (w : World) (a b : ByteArray) :
    Calls Tryz.prog 89 #[.string a, .string b] w fun e w' => e = .returned (.func (.func 131) #[] #[.pointer (some ⟨w.heap.size, 0, none⟩), .pointer (some ⟨w.heap.size + 1, 0, none⟩)]) ∧ w' = (w.alloc (.cells #[.string a] 22)).alloc (.cells #[.string b] 23) := by
  go_enter Tryz.func89, Tryz.ntmps89
  go_wp2_with fail
  go_ret
  exact ⟨rfl, rfl⟩
end Go.Proofs.YtikfgddgfddbaaaGreatDoor

/- Plain words: the coins that a bit string decides, one behind the other. -/
namespace Go.Proofs.YtikfgddgfddbaaaGreatDoor
open Go.RowKit
open Go.Lib (decDigits nDigits)

theorem toss_used (N D : Nat) : ∀ (l : List UInt8) (K T : Nat), (toss N D K T l).2.2 ≤ l.length
  | [], K, T => by
    cases h : sdB N D K T
    · rw [toss_late h]; simp
    · rw [toss_done h]; simp
  | b :: r, K, T => by
    cases h : sdB N D K T
    · rw [toss_next h]
      have := toss_used N D r (2 * K + (if b = 49 then 1 else 0)) (2 * T)
      simp only [List.length_cons]
      omega
    · rw [toss_done h]; simp

/-- A coin that is not decided uses all bits. -/
theorem toss_all (N D : Nat) : ∀ (l : List UInt8) (K T : Nat), (toss N D K T l).1 = false → (toss N D K T l).2 = (0, l.length)
  | [], K, T, h => by
    cases hs : sdB N D K T
    · rw [toss_late hs]; simp
    · rw [toss_done hs] at h; cases h
  | b :: r, K, T, h => by
    cases hs : sdB N D K T
    · rw [toss_next hs] at h ⊢
      have := toss_all N D r _ _ h
      simp only [Prod.ext_iff] at this ⊢
      simp only [List.length_cons]
      exact ⟨this.1, by omega⟩
    · rw [toss_done hs] at h; cases h

theorem toss_val (N D : Nat) : ∀ (l : List UInt8) (K T : Nat), (toss N D K T l).2.1 ≤ 1
  | [], K, T => by
    cases h : sdB N D K T
    · rw [toss_late h]; simp
    · rw [toss_done h]; simp only [sdV]; split <;> omega
  | b :: r, K, T => by
    cases h : sdB N D K T
    · rw [toss_next h]
      exact toss_val N D r _ _
    · rw [toss_done h]; simp only [sdV]; split <;> omega

/-- With a ratio below 1 no coin comes up 1 without a bit. -/
theorem toss_one {N D : Nat} (h : N < D) {l : List UInt8} (hd : (toss N D 0 1 l).1 = true) (hv : (toss N D 0 1 l).2.1 = 1) : 1 ≤ (toss N D 0 1 l).2.2 := by
  cases hs : sdB N D 0 1
  · cases l with
    | nil => rw [toss_late hs] at hd; cases hd
    | cons b r => rw [toss_next hs]; simp
  · rw [toss_done hs] at hv
    simp only [sdV, Nat.mul_one, Nat.zero_mul] at hv
    simp only [sdB, Nat.mul_one, Nat.zero_mul, Nat.zero_add, Bool.or_eq_true, decide_eq_true_eq] at hs
    split at hv
    · cases hv
    · omega

/-- The coin read from position p on. -/
def coinF (N D : Nat) (l : List UInt8) (p : Nat) : Bool × Nat × Nat := tossAt N D (l.drop p) 0 1 0

theorem coinF_eq (N D : Nat) (l : List UInt8) (p : Nat) : coinF N D l p = toss N D 0 1 (l.drop p) := by simp [coinF, tossAt]

/-- Where the coins before end. -/
def posOf (pre : List (Nat × Nat)) : Nat := match pre.getLast? with | some x => x.1 | none => 0
theorem posOf_nil : posOf [] = 0 := rfl
theorem posOf_snoc (pre : List (Nat × Nat)) (x : Nat × Nat) : posOf (pre ++ [x]) = x.1 := by simp [posOf]

theorem coinF_le {N D : Nat} {l : List UInt8} {p : Nat} (hp : p ≤ l.length) : p + (coinF N D l p).2.2 ≤ l.length := by
  rw [coinF_eq]
  have := toss_used N D (l.drop p) 0 1
  rw [List.length_drop] at this
  omega
end Go.Proofs.YtikfgddgfddbaaaGreatDoor

/- A region that draws its order: one of two operations comes up. No program in sight. -/
namespace Go.Proofs.YtikfgddgfddbaaaGreatDoor
open Go.RowKit
variable {P : Program} {ops : Array Oper} {Q : Exit → Act → World → Prop} {md : Region.Mode}

/-- An operation that comes up. -/
theorem held_op {S : World → Prop} {i : Nat} {o : Oper} {fuel : Nat} {listed : Array Bool} {a : Act} {w : World} (ho : ops[i]? = some o) (hg : o.guard = none)
    (h : wpList P ops (ThenH P md ops (Only Q) S fuel (listed.setIfInBounds i true)) [o] a w) : wpOp P ops (Only Q) i (fun a' w' => S w' ∧ wpAnyH P md ops (Only Q) S fuel (listed.setIfInBounds i true) a' w') a w := by
  unfold wpOp
  rw [ho]
  have hw : Region.wanted o (yielded ops a.tmps) = true := by simp [Region.wanted, hg]
  simp only [hw, if_true]
  unfold wpList at h
  rw [if_pos hw] at h
  rcases h with h | ⟨_, _, _, h⟩
  · left
    unfold Oper.wp at *
    generalize (execOp a.eval o).run P w = r at *
    cases r with
    | ok m w' =>
      cases m <;> simp only [Oper.upon] at h ⊢
      case value u => exact h
      case skip => exact h
      case defer d => exact h
      case enter f args =>
        refine Calls.mono h fun e w'' he => ?_
        cases e with
        | returned u => exact he
        | panicked c => exact he.elim
        | outgrown => obtain ⟨_, _, hx⟩ := he; exact hx.elim
      case row row args => exact h
    | halt x w' =>
      cases x <;> simp only [Oper.upon] at h ⊢
      case panic u => exact h.elim
  · exact h.elim

/-- One of two comes up: both are to be walked. -/
theorem held_two {S : World → Prop} {i j : Nat} {oi oj : Oper} {fuel : Nat} {listed : Array Bool} {a : Act} {w : World} (hr : Region.ready md ops listed = [i, j]) (hi : ops[i]? = some oi) (hj : ops[j]? = some oj) (hgi : oi.guard = none) (hgj : oj.guard = none)
    (h1 : wpList P ops (ThenH P md ops (Only Q) S fuel (listed.setIfInBounds i true)) [oi] a w)
    (h2 : wpList P ops (ThenH P md ops (Only Q) S fuel (listed.setIfInBounds j true)) [oj] a w) : wpAnyH P md ops (Only Q) S (fuel + 1) listed a w := by
  refine wpAnyH_all hr (by simp) fun k hk => ?_
  rcases List.mem_cons.1 hk with rfl | hk
  · exact held_op hi hgi h1
  · obtain rfl : k = j := by simpa using hk
    exact held_op hj hgj h2
end Go.Proofs.YtikfgddgfddbaaaGreatDoor

/- A range over a function that is known to come to its end only for the body's sake: a bound on the rounds. No program in sight. -/
namespace Go.Proofs.YtikfgddgfddbaaaGreatDoor
open Go.RowKit

/-- As Feeds, but the rounds are at most M by what the body holds. -/
def FeedsB {α : Type} (M n : Nat) (P : Program) (g : Nat) (lb : Array Value) (encs : α → Array Value) (Kp : World → World → Prop) (Ok : List α → α → Prop) (S Sp : List α → Prop) (w : World) : Prop :=
  ∀ (l : Nat) (J Jx : List α → World → Prop) (W : World), Below w.heap.size w W → AbidesFrom W.heap.size J → AbidesFrom W.heap.size Jx →
    (∀ pre x W1, Ok pre x → J pre W1 → YieldAt Fence.wide (n - 1) P l (encs x) W1 fun e W2 =>
      (e = .returned (.bool true) ∧ J (pre ++ [x]) W2 ∧ Kp W1 W2) ∨ (e = .returned (.bool false) ∧ Jx (pre ++ [x]) W2)) →
    (∀ pre W1, J pre W1 → pre.length ≤ M) →
    J [] W →
    CallsIn Fence.wide n P g (#[.func (.yield l) #[] #[]] ++ lb) W fun e W2 => (∃ v, e = .returned v) ∧ ((∃ xs, S xs ∧ J xs W2) ∨ (∃ pre, Sp pre ∧ Jx pre W2))

/-- A RANGE OVER A FUNCTION, at the wide fence: the body of a round knows what it is handed. -/
theorem range_okB {α : Type} {P : Program} {n : Nat} {g : Operand} {ps : Array Tmp} {assign body : Code} {Q : Exit → Act → World → Prop} {a : Act} {w : World} (h1 : 1 ≤ n)
    {gf : Nat} {lb : Array Value} (hg : a.eval g = .func (.func gf) #[] lb) (eg : ∀ args w, (callFunc gf args).run P w = .ok (.enter gf args) w)
    {encs : α → Array Value} {Kp : World → World → Prop} {Ok : List α → α → Prop} {S Sp : List α → Prop} {w0 : World} {M : Nat} (hseq : FeedsB M (n - 1) P gf lb encs Kp Ok S Sp w0)
    (hKt : ∀ {A B C : World}, Kp A B → Kp B C → Kp A C) (hKb : ∀ (W : World) (l : Nat) (o o2 : Obj), w.heap.size ≤ l → W.heap[l]? = some o → o.isCells = false → o.isWalk = false → Kp W (W.putObj l o2)) (hb0 : Below w0.heap.size w0 w) (hps : ∀ x, (encs x).size = ps.size)
    (I : List α → World → Prop) (Ix : Code → List α → World → Prop) (hI : OwnFrom w.heap.size I) (hIx : ∀ c, OwnFrom w.heap.size (Ix c)) (h0 : I [] w) (hM : ∀ pre W, I pre W → pre.length ≤ M) (a1 : α → Act)
    (hassign : ∀ (l : Nat) (x : α) (W : World) (K : Act → World → Prop), K (a1 x) W →
      assign.wpIn (Fence.wide.inRound l) (n - 1 - 1) P (Exit.then K (fun _ _ _ => False)) { tmps := (ps.zip (encs x)).foldl (fun t (p, v) => t.setIfInBounds p v) a.tmps, defers := [] } W)
    (hbody : ∀ (l : Nat) (pre : List α) (x : α) (W : World), Ok pre x → I pre W → body.wpIn (Fence.wide.inRound l) (n - 1 - 1) P (ownPostG w.heap.size Kp I Ix (pre ++ [x]) W) (a1 x) W)
    (hdone : ∀ (D : Nat) (xs : List α) (W : World), w.heap.size ≤ D → S xs → I xs W → W.heap[D]? = some (.deferred (some [])) → Q .normal { a with defers := { target := .collected D, args := #[] } :: a.defers } W)
    (hstop : ∀ (D : Nat) (c : Code) (pre : List α) (W : World), w.heap.size ≤ D → Sp pre → Ix c pre W → W.heap[D]? = some (.deferred (some [])) → c.wpIn Fence.wide n P Q { a with defers := { target := .collected D, args := #[] } :: a.defers } W) :
    (Code.rangeFunc g ps assign body).wpIn Fence.wide n P Q a w := by
  refine wpIn_rangeFunc fun fn hfn => ?_
  obtain ⟨R, hR⟩ : ∃ R : LoopState → Option Code → Loop, ∀ s p, R s p = { state := s, pending := p, fn, tmps := a.tmps, params := ps, assign, body, defers := w.heap.size } := ⟨_, fun _ _ => rfl⟩
  have hs : ∀ s p, (R s p).state = s := fun s p => by rw [hR]
  obtain ⟨W1, e1⟩ : ∃ W1, W1 = (w.alloc (.deferred (some []))).alloc (.loop (R .ready none)) := ⟨_, rfl⟩
  have z1 : w.heap.size ≤ W1.heap.size := by rw [e1]; simp; omega
  have k1 : Kept w.heap.size (R .ready none) W1 := by
    rw [e1]
    refine ⟨?_, (Below.heap_alloc _ _ _ (by simp)).trans (World.alloc_heap_new w _)⟩
    have := World.alloc_heap_new (w.alloc (.deferred (some []))) (.loop (R .ready none))
    rwa [World.size_alloc] at this
  have i1 : I [] W1 := by rw [e1]; exact hI.alloc _ (hI.alloc _ h0)
  have b1 : Below w0.heap.size w0 W1 := by
    have : Below w.heap.size w W1 := by rw [e1]; exact ((Below.refl _ w).alloc (Nat.le_refl _) _).alloc (by simp) _
    exact hb0.trans (this.mono hb0.size)
  refine ⟨w.heap.size + 1, [{ target := .collected w.heap.size, args := #[] }], W1, { target := .fn (.func gf) lb, args := #[.func (.yield (w.heap.size + 1)) #[] #[]] }, W1, gf, #[.func (.yield (w.heap.size + 1)) #[] #[]] ++ lb, W1, ?_, ?_, fun f hf => trivial, ?_, fun _ => h1, ?_⟩
  · have := run_enterLoop_outer (P := P) (w := w) fn a.tmps ps assign body
    rw [e1, hR]; exact this
  · simp only [resolve, hg]
    simp [go_sem]
  · simp [invoke, go_sem, eg]
  · refine (hseq (w.heap.size + 1) (fun pre W => I pre W ∧ Kept w.heap.size (R .ready none) W) (fun pre W => ∃ c, Ix c pre W ∧ Kept w.heap.size (R .done (some c)) W) W1 b1
      (fun s A B row hs hg2 hr => ⟨hI s A B row hs.1 hg2 (fun k e => ?_), hs.2.cells hg2 (fun k e => (hr k e).2)⟩)
      (fun s A B row hs hg2 hr => ?_) (fun pre x W hok hJ => ?_) (fun pre W h => hM pre W h.1) ⟨i1, k1⟩).mono ?_
    · obtain ⟨h2, o, h3, h4⟩ := hr k e
      exact ⟨Nat.le_trans z1 h2, o, h3, Obj.not_cells_of_walk h4⟩
    · obtain ⟨c, hc, hk⟩ := hs
      refine ⟨c, hIx c s A B row hc hg2 (fun k e => ?_), hk.cells hg2 (fun k e => (hr k e).2)⟩
      obtain ⟨h2, o, h3, h4⟩ := hr k e
      exact ⟨Nat.le_trans z1 h2, o, h3, Obj.not_cells_of_walk h4⟩
    · obtain ⟨hi, hk⟩ := hJ
      have hy := run_yield (P := P) (args := encs x) hk.loop (by rw [hR]; exact hps x)
      have kb := hk.put (R .busy none)
      have bg := run_beginRound (P := P) hk.loop (hs _ _)
      rw [show ({ R .ready none with state := .busy } : Loop) = R .busy none by rw [hR, hR]] at bg
      have kk : Kp W (W.putObj (w.heap.size + 1) (.loop (R .busy none))) := hKb _ _ _ _ (by omega) hk.loop rfl rfl
      rw [hR] at hy
      refine ⟨fn, _, assign, body, hy, roundIn_of_wpIn hfn (hassign _ x W _ ⟨_, bg, ?_⟩)⟩
      refine wpIn_mono (hbody _ pre x _ hok (own_put hI hk (Nat.le_refl _) hi _)) ?_
      have fin : ∀ (j : Option Code) (W3 : World), Kept w.heap.size (R .busy none) W3 → (Instr.endRound (w.heap.size + 1) j).run P W3 = .ok (.bool j.isNone) (W3.putObj (w.heap.size + 1) (.loop (R (if j.isNone then .ready else .done) j))) := fun j W3 h3 => by
        have := run_endRound (P := P) j h3.loop
        rw [this, hR, hR]
      rintro e a3 W3 hp
      cases e with
      | normal =>
        obtain ⟨p1, p2, p3⟩ := hp
        have k3 := kb.from p1 (Nat.le_refl _)
        exact ⟨_, _, fin none W3 k3, .inl ⟨rfl, ⟨own_put hI k3 (Nat.le_refl _) p3 _, k3.put _⟩, hKt (hKt kk p2) (hKb _ _ _ _ (by omega) k3.loop rfl rfl)⟩⟩
      | ret =>
        have k3 := kb.from hp.1 (Nat.le_refl _)
        exact ⟨_, _, fin (some .ret) W3 k3, .inr ⟨rfl, .ret, own_put (hIx _) k3 (Nat.le_refl _) hp.2 _, k3.put _⟩⟩
      | exit id =>
        have k3 := kb.from hp.1 (Nat.le_refl _)
        exact ⟨_, _, fin (some (.exit id)) W3 k3, .inr ⟨rfl, .exit id, own_put (hIx _) k3 (Nat.le_refl _) hp.2 _, k3.put _⟩⟩
      | goto t =>
        have k3 := kb.from hp.1 (Nat.le_refl _)
        exact ⟨_, _, fin (some (.goto t)) W3 k3, .inr ⟨rfl, .goto t, own_put (hIx _) k3 (Nat.le_refl _) hp.2 _, k3.put _⟩⟩
      | panic ch => exact hp.elim
      | outgrown => exact hp.elim
    · have en : ∀ {s p W2}, Kept w.heap.size (R s p) W2 → s ≠ .busy → (Instr.endLoop (w.heap.size + 1)).run P W2 = .ok p (W2.putObj (w.heap.size + 1) (.loop (R .exhausted p))) := fun {s p W2} h2 hne => by
        have := run_endLoop (P := P) h2.loop (by rw [hs]; exact hne)
        rw [this, hR, hR]
      rintro e W2 ⟨⟨v, rfl⟩, ⟨xs, hS, hi, hk⟩ | ⟨pre, hSp, c, hi, hk⟩⟩
      · exact ⟨none, _, en hk (by simp), hdone _ xs _ (Nat.le_refl _) hS (own_put hI hk (Nat.le_refl _) hi _) (hk.put (R .exhausted none)).calls⟩
      · exact ⟨some c, _, en hk (by simp), hstop _ c pre _ (Nat.le_refl _) hSp (own_put (hIx c) hk (Nat.le_refl _) hi _) (hk.put (R .exhausted (some c))).calls⟩

end Go.Proofs.YtikfgddgfddbaaaGreatDoor

/- Walks: geom.coins' iterator. -/
namespace Go.Proofs.YtikfgddgfddbaaaGreatDoor
open Go.RowKit Go.Shelf
open Go.Lib (decDigits nDigits)
set_option linter.unusedVariables false
set_option linter.unusedSimpArgs false
attribute [local go_sem] Oper.semAt_some

theorem bit_drop {b : ByteArray} (h : chkE b = 0) (p : Nat) : chkE (b.extract p b.size) = 0 ∧ (b.extract p b.size).data.toList = b.data.toList.drop p ∧ (b.extract p b.size).size ≤ 256 := by
  have hl : b.data.toList.length = b.size := list_size b
  have e : (b.extract p b.size).data.toList = b.data.toList.drop p := by
    rw [extract_list, List.take_of_length_le (by rw [List.length_drop]; omega)]
  unfold chkE at h
  split at h
  · rename_i hb
    split at h
    · cases h
    · rename_i h2
      have hs : (b.extract p b.size).size ≤ 256 := by
        have := list_size (b.extract p b.size)
        rw [e, List.length_drop] at this
        omega
      refine ⟨?_, e, hs⟩
      have hb2 : bitB (b.extract p b.size) = true := by
        unfold bitB at hb ⊢
        rw [e]
        rw [List.all_eq_true] at hb ⊢
        exact fun x hx => hb x (List.mem_of_mem_drop hx)
      rw [chkE, if_pos hb2, if_neg (by omega)]
  · cases h

set_option maxRecDepth 100000 in
set_option maxHeartbeats 2000000 in
theorem coins_feeds {Kp : World → World → Prop} (M n : Nat) (hn : 1 ≤ n) (w : World) (ba bb : Nat) (a b : ByteArray) (hKr : ∀ W, Kp W W) (hKt : ∀ {A B C : World}, Kp A B → Kp B C → Kp A C) (ha : a.size ≤ 100000) (hc : chkE b = 0) (he : cPE a = 0)
    (hread : ∀ W1 W2, Below w.heap.size w W1 → Kp W1 W2 → W2.cell? ⟨ba, 0, none⟩ = some (.string a) ∧ W2.cell? ⟨bb, 0, none⟩ = some (.string b) ∧ Lay W2) (hKb : ∀ W1 W2, Below W1.heap.size W1 W2 → Kp W1 W2) :
    FeedsB M n Tryz.prog 131 #[.pointer (some ⟨ba, 0, none⟩), .pointer (some ⟨bb, 0, none⟩)] (fun x : Nat × Nat => #[.int .i64 (x.1 : Int), .int .i64 (x.2 : Int)]) Kp
      (fun pre x => (coinF (bN (cW a)) (bN (qD a)) b.data.toList (posOf pre)).1 = true ∧ x = (posOf pre + (coinF (bN (cW a)) (bN (qD a)) b.data.toList (posOf pre)).2.2, (coinF (bN (cW a)) (bN (qD a)) b.data.toList (posOf pre)).2.1))
      (fun xs => (coinF (bN (cW a)) (bN (qD a)) b.data.toList (posOf xs)).1 = false) (fun _ => True) w := by
  intro l J Jx W hW hJ hJx hY hM h0
  have HR := hid hread; have HY := hid hY; have HW := hid hW; have HJ := hid hJ; have HJx := hid hJx; have HM := hid hM
  have HKr := hid hKr; have HKt : Hid (∀ A B C : World, Kp A B → Kp B C → Kp A C) := fun A B C h k => hKt h k
  have HKb := hid hKb
  have HC := hid hc; have HE := hid he; have HA := hid ha
  clear hread hY hW hJ hJx hKr hKt hM hKb hc he ha
  refine callsIn_of_wp Tryz.func131 rfl trivial ?_ rfl
  simp only [Tryz.ntmps131, List.size_toArray, List.length_cons, List.length_nil, Nat.reduceAdd, Nat.reduceSub, Array.replicate_succ, Array.replicate_zero, List.push_toArray, List.append_toArray, List.nil_append, List.cons_append]
  gi_wp2
  obtain ⟨RR, hRR⟩ : ∃ RR : Nat → Value → World → Prop, RR = fun k i wr => ∃ pre : List (Nat × Nat), i = .int .i64 (posOf pre : Nat) ∧ posOf pre ≤ b.size ∧ k + pre.length = M ∧ J pre wr ∧ Kp W wr := ⟨_, rfl⟩
  have HRR := hid hRR
  clear hRR
  gi_loopw [4, 5, 6] (fun i x5 x6 wr => ∃ k, RR k i wr) (fun i x5 x6 wr => leastOf (fun k => RR k i wr))
  case atStart => exact ⟨M, by rw [HRR.out]; exact ⟨[], rfl, Nat.zero_le _, by simp, h0, HKr.out W⟩⟩
  case round =>
    obtain ⟨hk, hmin⟩ := leastOf_spec hrel
    obtain ⟨k, hkk⟩ : ∃ k, leastOf (fun k => RR k u4 wr) = k := ⟨_, rfl⟩
    rw [hkk] at hk hmin
    rw [HRR.out] at hk
    obtain ⟨pre, rfl, hp, hlen, hJ, hK⟩ := hk
    obtain ⟨c0, c1, hLay⟩ := HR.out W wr HW.out hK
    obtain ⟨p, hpp⟩ : ∃ p, posOf pre = p := ⟨_, rfl⟩
    obtain ⟨q1, q2, q3⟩ := bit_drop HC.out p
    have q4 := fun V hV => hid (c_Draw_ok V a (b.extract p b.size) HA.out q3 q1 HE.out hV)
    rw [q2] at q4
    obtain ⟨x, hx⟩ : ∃ x, tossAt (bN (cW a)) (bN (qD a)) (b.data.toList.drop p) 0 1 0 = x := ⟨_, rfl⟩
    rw [hx] at q4
    have hxc : coinF (bN (cW a)) (bN (qD a)) b.data.toList p = x := hx
    have hle := coinF_le (N := bN (cW a)) (D := bN (qD a)) (l := b.data.toList) (p := p) (by rw [list_size, ← hpp]; exact hp)
    rw [hxc, list_size] at hle
    have HX := hid hxc; have HLE := hid hle; have HP := hid hpp; have HLEN := hid hlen; have HJw := hid hJ; have HK := hid hK; have HLay := hid hLay
    have HREL := hid hrel; have HKK := hid hkk
    rw [hpp] at hp ⊢ HREL
    have h0 : (0 : Int) ≤ (p : Int) := by omega
    have h1 : (p : Int) ≤ (b.size : Int) := by omega
    clear hx hxc hle hpp hlen hJ hK hLay q1 q2 q3 hmin hrel hkk hp
    obtain ⟨d, v, u⟩ := x
    simp only [drawV] at q4
    gi_wp2_with fail
    refine wpIn_wide.2 ?_
    refine held_plain [0, 1, 2, 3] 7 (fun W' => W'.cell? ⟨ba, 0, none⟩ = some (.string a) ∧ W'.cell? ⟨bb, 0, none⟩ = some (.string b)) (by kernel_rfl) (by kernel_rfl) (by kernel_rfl) (by kernel_rfl) ⟨c0, c1⟩ ?_
    iterate 4
      refine ⟨_, rfl, ?_⟩
      apply Exists.intro
      refine ⟨.inl ⟨by rfl, ?_⟩, ?_⟩
      · (intro W' hW'
         obtain ⟨q1, q2⟩ := hW'
         go_simp
         try (with_reducible rfl))
      (dsimp only [Act.put]; try simp only [List.setIfInBounds_toArray, List.set_cons_zero, List.set_cons_succ])
    refine held_two (i := 4) (j := 8) (by kernel_rfl) (by rfl) (by rfl) (by rfl) (by rfl) ?_ ?_
    · go_wp2_with fail
      refine (q4 _ (HLay.out.call (Below.refl _ _).drew)).out.mono ?_; rintro e w1 ⟨rfl, hb1⟩
      have y1 := hid (show Below wr.heap.size wr w1 from (Below.refl _ _).drew.trans hb1)
      have s0 := (y1.out.cell (cell_lt c0)).trans c0
      have s1 := (y1.out.cell (cell_lt c1)).trans c1
      clear hb1
      go_wp2_with fail
      refine ⟨⟨s0, s1⟩, ?_⟩
      refine held_more (is := [5, 6, 7]) (g := 3) (by kernel_rfl) rfl ⟨s0, s1⟩ (by kernel_rfl) ?_
      iterate 3
        refine ⟨_, rfl, ?_⟩
        apply Exists.intro
        refine ⟨.inl ⟨by rfl, ?_⟩, ?_⟩
        · (intro W' hW'
           clear hW'
           go_simp
           try (with_reducible rfl))
        (dsimp only [Act.put]; try simp only [List.setIfInBounds_toArray, List.set_cons_zero, List.set_cons_succ])
      refine held_one (i := 8) (by kernel_rfl) (by rfl) (by rfl) ?_
      go_wp2_with fail
      have s2 := ((Below.refl w1.heap.size w1).alloc (Nat.le_refl _) (.cells #[.bool false, .int .i64 0, .int .i64 0] 26))
      have s3 := (s2.cell (cell_lt s0)).trans s0
      have s4 := (s2.cell (cell_lt s1)).trans s1
      refine ⟨⟨s3, s4⟩, ?_⟩
      refine held_one (i := 9) (by kernel_rfl) (by rfl) (by rfl) ?_
      have bk := Blk.new w1 #[.bool false, .int .i64 0, .int .i64 0] 26
      have r0 : (w1.alloc (.cells #[.bool false, .int .i64 0, .int .i64 0] 26)).cell? ⟨w1.heap.size, 0, none⟩ = some (.bool false) := bk.cell 0
      have r1 : (w1.alloc (.cells #[.bool false, .int .i64 0, .int .i64 0] 26)).cell? ⟨w1.heap.size, 1, none⟩ = some (.int .i64 0) := bk.cell 1
      have r2 : (w1.alloc (.cells #[.bool false, .int .i64 0, .int .i64 0] 26)).cell? ⟨w1.heap.size, 2, none⟩ = some (.int .i64 0) := bk.cell 2
      have f0 := bk.free 0
      have f1 := bk.free 1
      have f2 := bk.free 2
      obtain ⟨dB, hdB⟩ : ∃ n, w1.heap.size = n := ⟨_, rfl⟩
      have HDB := hid hdB
      have LT0 := hid (cell_lt s0); have LT1 := hid (cell_lt s1)
      obtain ⟨w2, hw2⟩ : ∃ w2, w1.alloc (.cells #[.bool false, .int .i64 0, .int .i64 0] 26) = w2 := ⟨_, rfl⟩
      rw [hw2] at s3 s4 bk r0 r1 r2 f0 f1 f2 ⊢
      rw [hw2] at s2
      rw [hdB] at bk r0 r1 r2 f0 f1 f2 s2 LT0 LT1 ⊢
      have BK := hid bk
      have y2 := hid (y1.out.trans (s2.mono (by have := y1.out.size; omega)))
      clear s0 s1 s2 hdB hw2 bk
      go_wp2_with fail
      have bk3 : Blk (((w2.setCell ⟨dB, 0, none⟩ (.bool d)).setCell ⟨dB, 1, none⟩ (.int .i64 (v : Nat))).setCell ⟨dB, 2, none⟩ (.int .i64 (u : Nat))) dB #[.bool d, .int .i64 (v : Nat), .int .i64 (u : Nat)] 26 := by
        have := ((BK.out.set 0 (.bool d)).set 1 (.int .i64 (v : Nat))).set 2 (.int .i64 (u : Nat))
        simpa using this
      have y3 : Below wr.heap.size wr (((w2.setCell ⟨dB, 0, none⟩ (.bool d)).setCell ⟨dB, 1, none⟩ (.int .i64 (v : Nat))).setCell ⟨dB, 2, none⟩ (.int .i64 (u : Nat))) :=
        have hge : wr.heap.size ≤ dB := by rw [← HDB.out]; exact y1.out.size
        ((y2.out.setCell hge _).setCell hge _).setCell hge _
      obtain ⟨V, hV⟩ : ∃ V, ((w2.setCell ⟨dB, 0, none⟩ (.bool d)).setCell ⟨dB, 1, none⟩ (.int .i64 (v : Nat))).setCell ⟨dB, 2, none⟩ (.int .i64 (u : Nat)) = V := ⟨_, rfl⟩
      rw [hV] at bk3 y3 ⊢
      have s5 := (y3.cell (cell_lt c0)).trans c0
      have s6 := (y3.cell (cell_lt c1)).trans c1
      have BV := hid bk3; have YV := hid y3
      clear hV bk3 y3 r0 r1 r2 f0 f1 f2 s3 s4
      refine ⟨⟨s5, s6⟩, ?_⟩
      refine held_one (i := 10) (by kernel_rfl) (by rfl) (by rfl) ?_
      go_wp2_with fail
      refine ⟨⟨s5, s6⟩, ?_⟩
      refine wpAnyH_done (by kernel_rfl) ?_ _
      simp only [Only]
      have e0 : V.cell? ⟨dB, 0, none⟩ = some (.bool d) := BV.out.cell 0
      have e1 : V.cell? ⟨dB, 1, none⟩ = some (.int .i64 (v : Nat)) := BV.out.cell 1
      have e2 : V.cell? ⟨dB, 2, none⟩ = some (.int .i64 (u : Nat)) := BV.out.cell 2
      have ew : IntKind.i64.wrap ((p : Int) + (u : Nat)) = ((p + u : Nat) : Int) := by
        have h2 := HLE.out
        have h3 := (bit_drop HC.out 0).2.2
        have h4 : b.size ≤ 256 := by
          have h5 := (bit_drop HC.out 0).2.1
          have h6 := list_size (b.extract 0 b.size)
          rw [h5, List.drop_zero, list_size] at h6
          omega
        rw [IntWalk.i64_in _ ⟨by omega, by omega⟩]
        omega
      clear s5 s6
      have hJV : J pre V := HJ.out pre wr V none HJw.out ⟨YV.out.os, YV.out.tape, YV.out.output, YV.out.size, fun k hk _ => YV.out.block k hk⟩ (fun r e => by cases e)
      have hKV : Kp W V := HKt.out _ _ _ HK.out (HKb.out _ _ YV.out)
      have HJV := hid hJV; have HKV := hid hKV
      clear hJV hKV
      cases d
      · gi_wp2_with fail
        refine ⟨fun f hf => (by cases hf), ?_⟩
        gi_wp2_with fail
        refine bodyPost_ret (results_none rfl _ _ _) rfl ?_
        exact ⟨⟨_, rfl⟩, .inl ⟨pre, by rw [HP.out, HX.out], HJV.out⟩⟩
      · obtain ⟨fn, tmps, assign, body, hy, hR⟩ := HY.out pre (p + u, v) V ⟨by rw [HP.out, HX.out], by rw [HP.out, HX.out]⟩ HJV.out
        dsimp only at hy
        rw [Int.natCast_add] at hy
        have HYR := hid hR
        gi_wp2_with fail
        refine HYR.out.mono ?_
        rintro e W3 (⟨rfl, hJ3, hk3⟩ | ⟨rfl, hJx3⟩)
        · have hM3 := HM.out _ _ hJ3
          rw [List.length_append, List.length_singleton] at hM3
          have RN := hid (show RR (k - 1) (.int .i64 ((p : Int) + (u : Nat))) W3 from by
            rw [HRR.out]
            refine ⟨pre ++ [(p + u, v)], by rw [posOf_snoc, Int.natCast_add], by rw [posOf_snoc]; exact HLE.out, ?_, hJ3, HKt.out _ _ _ HKV.out hk3⟩
            rw [List.length_append, List.length_singleton]
            have := HLEN.out
            omega)
          have HK1 := hid (show 1 ≤ k from by have := HLEN.out; omega)
          clear hJ3 hk3 hM3 hy hR
          gi_wp2_with fail
          go_roundw
          case rel => exact ⟨_, RN.out⟩
          case measure =>
            have h1 := (leastOf_spec (p := fun k => RR k (.int .i64 ((p : Int) + (u : Nat))) W3) ⟨_, RN.out⟩).2 _ RN.out
            have h2 := HKK.out
            rw [HP.out] at h2
            have h3 := HK1.out
            show leastOf (fun k => RR k (.int .i64 ((p : Int) + (u : Nat))) W3) < leastOf (fun k => RR k (.int .i64 (p : Nat)) wr)
            rw [h2]
            omega
        · clear hy hR
          gi_wp2_with fail
          refine bodyPost_ret (results_none rfl _ _ _) rfl ?_
          exact ⟨⟨_, rfl⟩, .inr ⟨_, trivial, hJx3⟩⟩
    · go_wp2_with fail
      have b0 : Blk (wr.alloc (.cells #[.bool false, .int .i64 0, .int .i64 0] 26)).drew wr.heap.size #[.bool false, .int .i64 0, .int .i64 0] 26 := Blk.new wr #[.bool false, .int .i64 0, .int .i64 0] 26
      have a0 : Below wr.heap.size wr (wr.alloc (.cells #[.bool false, .int .i64 0, .int .i64 0] 26)).drew := ((Below.refl _ _).alloc (Nat.le_refl _) _).drew
      obtain ⟨dB, hdB⟩ : ∃ n, wr.heap.size = n := ⟨_, rfl⟩
      have HDB := hid hdB
      obtain ⟨w1, hw1⟩ : ∃ w1, (wr.alloc (.cells #[.bool false, .int .i64 0, .int .i64 0] 26)).drew = w1 := ⟨_, rfl⟩
      rw [hw1] at b0 a0 ⊢
      rw [hdB] at b0 ⊢
      have A0 := hid a0; have BB0 := hid b0
      have s0 := (a0.cell (cell_lt c0)).trans c0
      have s1 := (a0.cell (cell_lt c1)).trans c1
      clear hw1 hdB a0 b0
      refine ⟨⟨s0, s1⟩, ?_⟩
      refine held_one (i := 4) (by kernel_rfl) (by rfl) (by rfl) ?_
      go_wp2_with fail
      refine (q4 _ (HLay.out.call A0.out)).out.mono ?_; rintro e w2 ⟨rfl, hb2⟩
      have y2 := hid (A0.out.trans (hb2.mono A0.out.size))
      have BK := hid (BB0.out.call hb2)
      have s3 := (y2.out.cell (cell_lt c0)).trans c0
      have s4 := (y2.out.cell (cell_lt c1)).trans c1
      clear hb2 s0 s1
      go_wp2_with fail
      refine ⟨⟨s3, s4⟩, ?_⟩
      refine held_more (is := [5, 6, 7]) (g := 2) (by kernel_rfl) rfl ⟨s3, s4⟩ (by kernel_rfl) ?_
      iterate 3
        refine ⟨_, rfl, ?_⟩
        apply Exists.intro
        refine ⟨.inl ⟨by rfl, ?_⟩, ?_⟩
        · (intro W' hW'
           clear hW'
           go_simp
           try (with_reducible rfl))
        (dsimp only [Act.put]; try simp only [List.setIfInBounds_toArray, List.set_cons_zero, List.set_cons_succ])
      have r0 : w2.cell? ⟨dB, 0, none⟩ = some (.bool false) := BK.out.cell 0
      have r1 : w2.cell? ⟨dB, 1, none⟩ = some (.int .i64 0) := BK.out.cell 1
      have r2 : w2.cell? ⟨dB, 2, none⟩ = some (.int .i64 0) := BK.out.cell 2
      have f0 := BK.out.free 0
      have f1 := BK.out.free 1
      have f2 := BK.out.free 2
      refine held_one (i := 9) (by kernel_rfl) (by rfl) (by rfl) ?_
      go_wp2_with fail
      have bk3 : Blk (((w2.setCell ⟨dB, 0, none⟩ (.bool d)).setCell ⟨dB, 1, none⟩ (.int .i64 (v : Nat))).setCell ⟨dB, 2, none⟩ (.int .i64 (u : Nat))) dB #[.bool d, .int .i64 (v : Nat), .int .i64 (u : Nat)] 26 := by
        have := ((BK.out.set 0 (.bool d)).set 1 (.int .i64 (v : Nat))).set 2 (.int .i64 (u : Nat))
        simpa using this
      have y3 : Below wr.heap.size wr (((w2.setCell ⟨dB, 0, none⟩ (.bool d)).setCell ⟨dB, 1, none⟩ (.int .i64 (v : Nat))).setCell ⟨dB, 2, none⟩ (.int .i64 (u : Nat))) :=
        have hge : wr.heap.size ≤ dB := by rw [← HDB.out]; exact Nat.le_refl _
        ((y2.out.setCell hge _).setCell hge _).setCell hge _
      obtain ⟨V, hV⟩ : ∃ V, ((w2.setCell ⟨dB, 0, none⟩ (.bool d)).setCell ⟨dB, 1, none⟩ (.int .i64 (v : Nat))).setCell ⟨dB, 2, none⟩ (.int .i64 (u : Nat)) = V := ⟨_, rfl⟩
      rw [hV] at bk3 y3 ⊢
      have s5 := (y3.cell (cell_lt c0)).trans c0
      have s6 := (y3.cell (cell_lt c1)).trans c1
      have BV := hid bk3; have YV := hid y3
      clear hV bk3 y3 r0 r1 r2 f0 f1 f2 s3 s4
      refine ⟨⟨s5, s6⟩, ?_⟩
      refine held_one (i := 10) (by kernel_rfl) (by rfl) (by rfl) ?_
      go_wp2_with fail
      refine ⟨⟨s5, s6⟩, ?_⟩
      refine wpAnyH_done (by kernel_rfl) ?_ _
      simp only [Only]
      have e0 : V.cell? ⟨dB, 0, none⟩ = some (.bool d) := BV.out.cell 0
      have e1 : V.cell? ⟨dB, 1, none⟩ = some (.int .i64 (v : Nat)) := BV.out.cell 1
      have e2 : V.cell? ⟨dB, 2, none⟩ = some (.int .i64 (u : Nat)) := BV.out.cell 2
      have ew : IntKind.i64.wrap ((p : Int) + (u : Nat)) = ((p + u : Nat) : Int) := by
        have h2 := HLE.out
        have h3 := (bit_drop HC.out 0).2.2
        have h4 : b.size ≤ 256 := by
          have h5 := (bit_drop HC.out 0).2.1
          have h6 := list_size (b.extract 0 b.size)
          rw [h5, List.drop_zero, list_size] at h6
          omega
        rw [IntWalk.i64_in _ ⟨by omega, by omega⟩]
        omega
      clear s5 s6
      have hJV : J pre V := HJ.out pre wr V none HJw.out ⟨YV.out.os, YV.out.tape, YV.out.output, YV.out.size, fun k hk _ => YV.out.block k hk⟩ (fun r e => by cases e)
      have hKV : Kp W V := HKt.out _ _ _ HK.out (HKb.out _ _ YV.out)
      have HJV := hid hJV; have HKV := hid hKV
      clear hJV hKV
      cases d
      · gi_wp2_with fail
        refine ⟨fun f hf => (by cases hf), ?_⟩
        gi_wp2_with fail
        refine bodyPost_ret (results_none rfl _ _ _) rfl ?_
        exact ⟨⟨_, rfl⟩, .inl ⟨pre, by rw [HP.out, HX.out], HJV.out⟩⟩
      · obtain ⟨fn, tmps, assign, body, hy, hR⟩ := HY.out pre (p + u, v) V ⟨by rw [HP.out, HX.out], by rw [HP.out, HX.out]⟩ HJV.out
        dsimp only at hy
        rw [Int.natCast_add] at hy
        have HYR := hid hR
        gi_wp2_with fail
        refine HYR.out.mono ?_
        rintro e W3 (⟨rfl, hJ3, hk3⟩ | ⟨rfl, hJx3⟩)
        · have hM3 := HM.out _ _ hJ3
          rw [List.length_append, List.length_singleton] at hM3
          have RN := hid (show RR (k - 1) (.int .i64 ((p : Int) + (u : Nat))) W3 from by
            rw [HRR.out]
            refine ⟨pre ++ [(p + u, v)], by rw [posOf_snoc, Int.natCast_add], by rw [posOf_snoc]; exact HLE.out, ?_, hJ3, HKt.out _ _ _ HKV.out hk3⟩
            rw [List.length_append, List.length_singleton]
            have := HLEN.out
            omega)
          have HK1 := hid (show 1 ≤ k from by have := HLEN.out; omega)
          clear hJ3 hk3 hM3 hy hR
          gi_wp2_with fail
          go_roundw
          case rel => exact ⟨_, RN.out⟩
          case measure =>
            have h1 := (leastOf_spec (p := fun k => RR k (.int .i64 ((p : Int) + (u : Nat))) W3) ⟨_, RN.out⟩).2 _ RN.out
            have h2 := HKK.out
            rw [HP.out] at h2
            have h3 := HK1.out
            show leastOf (fun k => RR k (.int .i64 ((p : Int) + (u : Nat))) W3) < leastOf (fun k => RR k (.int .i64 (p : Nat)) wr)
            rw [h2]
            omega
        · clear hy hR
          gi_wp2_with fail
          refine bodyPost_ret (results_none rfl _ _ _) rfl ?_
          exact ⟨⟨_, rfl⟩, .inr ⟨_, trivial, hJx3⟩⟩
end Go.Proofs.YtikfgddgfddbaaaGreatDoor

/- Plain words: series of coins, one behind the other. -/
namespace Go.Proofs.YtikfgddgfddbaaaGreatDoor
open Go.RowKit
open Go.Lib (decDigits nDigits)

/-- Series from position p on, m of them still to come: the values so far, the count of the series under way. -/
def ser (N D : Nat) (l : List UInt8) : Nat → Nat → Nat → List Nat → Nat → Option (List Nat × Nat)
  | 0, _, _, _, _ => none
  | f + 1, m, p, vs, n =>
    if (coinF N D l p).1 = false then none
    else if (coinF N D l p).2.1 = 1 then ser N D l f m (p + (coinF N D l p).2.2) vs (n + 1)
    else if m ≤ 1 then some (vs ++ [n], p + (coinF N D l p).2.2)
    else ser N D l f (m - 1) (p + (coinF N D l p).2.2) (vs ++ [n]) 0

theorem coinF_one {N D : Nat} (h : N < D) {l : List UInt8} {p : Nat} (hd : (coinF N D l p).1 = true) (hv : (coinF N D l p).2.1 = 1) : 1 ≤ (coinF N D l p).2.2 := by
  rw [coinF_eq] at *
  exact toss_one h hd hv

/-- More rounds than are needed change nothing. -/
theorem ser_fuel {N D : Nat} (h : N < D) {l : List UInt8} : ∀ (f f' m p : Nat) (vs : List Nat) (n : Nat), 1 ≤ m → p ≤ l.length → l.length - p + m ≤ f → l.length - p + m ≤ f' → ser N D l f m p vs n = ser N D l f' m p vs n := by
  intro f
  induction f with
  | zero => intro f' m p vs n hm hp h1 h2; omega
  | succ f ih =>
    intro f' m p vs n hm hp h1 h2
    cases f' with
    | zero => omega
    | succ f' =>
      have hle := coinF_le (N := N) (D := D) hp
      simp only [ser]
      split
      · rfl
      · rename_i hd
        have hd' : (coinF N D l p).1 = true := by simpa using hd
        split
        · rename_i hv
          have := coinF_one h hd' hv
          exact ih _ _ _ _ _ hm hle (by omega) (by omega)
        · split
          · rfl
          · exact ih _ _ _ _ _ (by omega) hle (by omega) (by omega)

/-- Series, with as many rounds as are needed. -/
def sr (N D : Nat) (l : List UInt8) (m p : Nat) (vs : List Nat) (n : Nat) : Option (List Nat × Nat) := ser N D l (l.length - p + m) m p vs n

theorem sr_of {N D : Nat} (h : N < D) {l : List UInt8} {f m p n : Nat} {vs : List Nat} (hm : 1 ≤ m) (hp : p ≤ l.length) (hf : l.length - p + m ≤ f) : ser N D l f m p vs n = sr N D l m p vs n := ser_fuel h _ _ _ _ _ _ hm hp hf (Nat.le_refl _)

theorem sr_unfold {N D : Nat} {l : List UInt8} {m p n : Nat} {vs : List Nat} (hm : 1 ≤ m) : sr N D l m p vs n = ser N D l ((l.length - p + m - 1) + 1) m p vs n := by
  unfold sr
  rw [show l.length - p + m - 1 + 1 = l.length - p + m by omega]

theorem sr_late {N D : Nat} {l : List UInt8} {m p n : Nat} {vs : List Nat} (hm : 1 ≤ m) (hd : (coinF N D l p).1 = false) : sr N D l m p vs n = none := by
  rw [sr_unfold hm, ser, if_pos hd]
theorem sr_one {N D : Nat} (h : N < D) {l : List UInt8} {m p n : Nat} {vs : List Nat} (hm : 1 ≤ m) (hp : p ≤ l.length) (hd : (coinF N D l p).1 = true) (hv : (coinF N D l p).2.1 = 1) : sr N D l m p vs n = sr N D l m (p + (coinF N D l p).2.2) vs (n + 1) := by
  have hle := coinF_le (N := N) (D := D) hp
  have := coinF_one h hd hv
  rw [sr_unfold hm, ser, if_neg (by simp [hd]), if_pos hv]
  exact sr_of h hm hle (by omega)
theorem sr_stop {N D : Nat} {l : List UInt8} {p n : Nat} {vs : List Nat} (hd : (coinF N D l p).1 = true) (hv : ¬ (coinF N D l p).2.1 = 1) : sr N D l 1 p vs n = some (vs ++ [n], p + (coinF N D l p).2.2) := by
  rw [sr_unfold (Nat.le_refl 1), ser, if_neg (by simp [hd]), if_neg hv, if_pos (Nat.le_refl 1)]
theorem sr_more {N D : Nat} (h : N < D) {l : List UInt8} {m p n : Nat} {vs : List Nat} (hm : 2 ≤ m) (hp : p ≤ l.length) (hd : (coinF N D l p).1 = true) (hv : ¬ (coinF N D l p).2.1 = 1) : sr N D l m p vs n = sr N D l (m - 1) (p + (coinF N D l p).2.2) (vs ++ [n]) 0 := by
  have hle := coinF_le (N := N) (D := D) hp
  rw [sr_unfold (by omega), ser, if_neg (by simp [hd]), if_neg hv, if_neg (by omega)]
  exact sr_of h (by omega) hle (by omega)

/-- What one series gives, from position p on with n ones so far. -/
def s1 (N D : Nat) (l : List UInt8) (p n : Nat) : Option (Nat × Nat) := match sr N D l 1 p [] n with | some (x :: _, at') => some (x, at') | _ => none

theorem sr_one_eq {N D : Nat} (h : N < D) {l : List UInt8} : ∀ (f p : Nat) (vs : List Nat) (n : Nat), p ≤ l.length → l.length - p ≤ f → sr N D l 1 p vs n = match s1 N D l p n with | some (x, a) => some (vs ++ [x], a) | none => none := by
  intro f
  induction f with
  | zero =>
    intro p vs n hp hf
    cases hd : (coinF N D l p).1
    · rw [s1, sr_late (Nat.le_refl 1) hd, sr_late (Nat.le_refl 1) hd]
    · by_cases hv : (coinF N D l p).2.1 = 1
      · have := coinF_one h hd hv
        have := coinF_le (N := N) (D := D) hp
        omega
      · rw [s1, sr_stop hd hv, sr_stop hd hv]
        rfl
  | succ f ih =>
    intro p vs n hp hf
    cases hd : (coinF N D l p).1
    · rw [s1, sr_late (Nat.le_refl 1) hd, sr_late (Nat.le_refl 1) hd]
    · by_cases hv : (coinF N D l p).2.1 = 1
      · have := coinF_one h hd hv
        have hle := coinF_le (N := N) (D := D) hp
        rw [s1, sr_one h (Nat.le_refl 1) hp hd hv, sr_one h (Nat.le_refl 1) hp hd hv, ih _ _ _ hle (by omega)]
        rfl
      · rw [s1, sr_stop hd hv, sr_stop hd hv]
        rfl

/-- The end of one series lies within. -/
theorem s1_le {N D : Nat} (h : N < D) {l : List UInt8} : ∀ (f p n x a : Nat), p ≤ l.length → l.length - p ≤ f → s1 N D l p n = some (x, a) → p ≤ a ∧ a ≤ l.length ∧ x ≤ n + (a - p) := by
  intro f
  induction f with
  | zero =>
    intro p n x a hp hf hs
    cases hd : (coinF N D l p).1
    · rw [s1, sr_late (Nat.le_refl 1) hd] at hs; cases hs
    · by_cases hv : (coinF N D l p).2.1 = 1
      · have := coinF_one h hd hv
        have := coinF_le (N := N) (D := D) hp
        omega
      · rw [s1, sr_stop hd hv] at hs
        simp at hs
        have := coinF_le (N := N) (D := D) hp
        omega
  | succ f ih =>
    intro p n x a hp hf hs
    cases hd : (coinF N D l p).1
    · rw [s1, sr_late (Nat.le_refl 1) hd] at hs; cases hs
    · by_cases hv : (coinF N D l p).2.1 = 1
      · have := coinF_one h hd hv
        have hle := coinF_le (N := N) (D := D) hp
        rw [s1, sr_one h (Nat.le_refl 1) hp hd hv] at hs
        have := ih _ _ _ _ hle (by omega) hs
        omega
      · rw [s1, sr_stop hd hv] at hs
        simp at hs
        have := coinF_le (N := N) (D := D) hp
        omega

/-- Two series are one behind the other. -/
theorem sr_two {N D : Nat} (h : N < D) {l : List UInt8} : ∀ (f p : Nat) (vs : List Nat) (n : Nat), p ≤ l.length → l.length - p ≤ f → sr N D l 2 p vs n = match s1 N D l p n with
    | some (x, a) => sr N D l 1 a (vs ++ [x]) 0
    | none => none := by
  intro f
  induction f with
  | zero =>
    intro p vs n hp hf
    cases hd : (coinF N D l p).1
    · rw [s1, sr_late (by omega) hd, sr_late (Nat.le_refl 1) hd]
    · by_cases hv : (coinF N D l p).2.1 = 1
      · have := coinF_one h hd hv
        have := coinF_le (N := N) (D := D) hp
        omega
      · rw [s1, sr_stop hd hv, sr_more h (Nat.le_refl 2) hp hd hv]
        rfl
  | succ f ih =>
    intro p vs n hp hf
    cases hd : (coinF N D l p).1
    · rw [s1, sr_late (by omega) hd, sr_late (Nat.le_refl 1) hd]
    · by_cases hv : (coinF N D l p).2.1 = 1
      · have := coinF_one h hd hv
        have hle := coinF_le (N := N) (D := D) hp
        rw [s1, sr_one h (by omega) hp hd hv, sr_one h (Nat.le_refl 1) hp hd hv, ih _ _ _ hle (by omega)]
        rfl
      · rw [s1, sr_stop hd hv, sr_more h (Nat.le_refl 2) hp hd hv]
        rfl

theorem coinF_drop (N D : Nat) (l : List UInt8) (a q : Nat) : coinF N D (l.drop a) q = coinF N D l (a + q) := by
  unfold coinF; rw [List.drop_drop]

/-- A series that begins at a is that of the rest. -/
theorem s1_drop {N D : Nat} (h : N < D) {l : List UInt8} {a : Nat} (ha : a ≤ l.length) : ∀ (f q n : Nat), a + q ≤ l.length → l.length - (a + q) ≤ f → s1 N D l (a + q) n = (s1 N D (l.drop a) q n).map (fun x => (x.1, a + x.2)) := by
  intro f
  induction f with
  | zero =>
    intro q n hp hf
    have hc := coinF_drop N D l a q
    cases hd : (coinF N D l (a + q)).1
    · rw [s1, s1, sr_late (Nat.le_refl 1) hd, sr_late (Nat.le_refl 1) (by rw [hc]; exact hd)]
      rfl
    · by_cases hv : (coinF N D l (a + q)).2.1 = 1
      · have := coinF_one h hd hv
        have := coinF_le (N := N) (D := D) hp
        omega
      · rw [s1, s1, sr_stop hd hv, sr_stop (by rw [hc]; exact hd) (by rw [hc]; exact hv), hc]
        simp [Nat.add_assoc]
  | succ f ih =>
    intro q n hp hf
    have hc := coinF_drop N D l a q
    cases hd : (coinF N D l (a + q)).1
    · rw [s1, s1, sr_late (Nat.le_refl 1) hd, sr_late (Nat.le_refl 1) (by rw [hc]; exact hd)]
      rfl
    · by_cases hv : (coinF N D l (a + q)).2.1 = 1
      · have := coinF_one h hd hv
        have hle := coinF_le (N := N) (D := D) hp
        have ih' := ih (q + (coinF N D l (a + q)).2.2) (n + 1) (by omega) (by omega)
        rw [← Nat.add_assoc] at ih'
        rw [s1, s1, sr_one h (Nat.le_refl 1) hp hd hv, sr_one (l := l.drop a) (p := q) h (Nat.le_refl 1) (by rw [List.length_drop]; omega) (by rw [hc]; exact hd) (by rw [hc]; exact hv), hc]
        exact ih'
      · rw [s1, s1, sr_stop hd hv, sr_stop (by rw [hc]; exact hd) (by rw [hc]; exact hv), hc]
        simp [Nat.add_assoc]
end Go.Proofs.YtikfgddgfddbaaaGreatDoor

/- Walks: geom.series. -/
namespace Go.Proofs.YtikfgddgfddbaaaGreatDoor
open Go.RowKit Go.Shelf
open Go.Lib (decDigits nDigits)
set_option linter.unusedVariables false
set_option linter.unusedSimpArgs false
attribute [local go_sem] Oper.semAt_some

theorem wpIn_scope {n : Nat} {P : Program} {Q : Exit → Act → World → Prop} {a : Act} {w : World} {c : Code} (h : c.wpIn Fence.wide n P (Exit.noGoto Q) a w) : (Code.scope c).wpIn Fence.wide n P Q a w :=
  wpIn_wide.2 (wp_scope_straight (wpIn_wide.1 h))

/-- What the rounds of series leave alone: below n0, and two blocks. -/
structure KpS (n0 b1 b2 : Nat) (W W' : World) : Prop where
  size : W.heap.size ≤ W'.heap.size
  rest : n0 ≤ W.heap.size → b1 < W.heap.size → b2 < W.heap.size → Below n0 W W' ∧ W'.heap[b1]? = W.heap[b1]? ∧ W'.heap[b2]? = W.heap[b2]?
theorem KpS.refl (n0 b1 b2 : Nat) (W : World) : KpS n0 b1 b2 W W := ⟨Nat.le_refl _, fun _ _ _ => ⟨Below.refl _ _, rfl, rfl⟩⟩
theorem KpS.trans {n0 b1 b2 : Nat} {A B C : World} (h : KpS n0 b1 b2 A B) (k : KpS n0 b1 b2 B C) : KpS n0 b1 b2 A C :=
  ⟨Nat.le_trans h.size k.size, fun h1 h2 h3 => by
    obtain ⟨x, y, z⟩ := h.rest h1 h2 h3
    obtain ⟨x', y', z'⟩ := k.rest (Nat.le_trans h1 h.size) (Nat.lt_of_lt_of_le h2 h.size) (Nat.lt_of_lt_of_le h3 h.size)
    exact ⟨x.trans x', y'.trans y, z'.trans z⟩⟩
theorem KpS.of_below {n0 b1 b2 : Nat} {W W' : World} (h : Below W.heap.size W W') : KpS n0 b1 b2 W W' := ⟨h.size, fun h1 h2 h3 => ⟨h.mono h1, h.block _ h2, h.block _ h3⟩⟩
theorem KpS.put {n0 b1 b2 : Nat} {w : World} (h1 : n0 ≤ w.heap.size) (h2 : b1 < w.heap.size) (h3 : b2 < w.heap.size) (W : World) (l : Nat) (o o' : Obj) (hl : w.heap.size ≤ l) (h : W.heap[l]? = some o) (hc : o.isCells = false) (hw : o.isWalk = false) : KpS n0 b1 b2 W (W.putObj l o') := by
  have hs : W.heap.size ≤ (W.putObj l o').heap.size := by simp [World.putObj]
  refine ⟨hs, fun _ _ _ => ⟨?_, ?_, ?_⟩⟩
  · exact ⟨rfl, rfl, rfl, hs, fun k hk => World.putObj_heap_other (by omega)⟩
  · exact World.putObj_heap_other (by omega)
  · exact World.putObj_heap_other (by omega)

theorem info_i64 : (Tryz.prog.info? 3).map (fun i => (i.zero, i.size, i.bytes)) = some (some (.int .i64 0), 1, 8) := by kernel_rfl

theorem owns_one {W : World} {b : Nat} {t : TypeId} {x : Value} (h : Blk W b #[x] t) : W.ownsRow b t 1 (.slice (some ⟨b, 0, none⟩) 1 1) 1 [x] :=
  ⟨rfl, .inr ⟨b, 1, #[x], rfl, Nat.le_refl _, h, Nat.le_refl _, by unfold maxLen; omega, rfl, rfl⟩⟩

/-- A store into a row of the call's own. -/
theorem own_set {W : World} {base : Nat} {e : TypeId} {g n cap : Nat} {xs : List Value} (h : W.ownsRow base e 1 (.slice (some ⟨g, 0, none⟩) n cap) n xs) (i : Nat) (x : Value) : (W.setCell ⟨g, i, none⟩ x).ownsRow base e 1 (.slice (some ⟨g, 0, none⟩) n cap) n (xs.set i x) := by
  rcases h.2 with ⟨e1, _⟩ | ⟨g', cap', cur, e1, hb, hg, h1, h2, h3, h4⟩
  · simp at e1
  · simp at e1
    obtain ⟨rfl, rfl⟩ := e1
    refine ⟨by rw [List.length_set]; exact h.1, .inr ⟨g, cap, cur.setIfInBounds i x, rfl, hb, Blk.set hg i x, h1, h2, by simpa using h3, ?_⟩⟩
    rw [Array.toList_setIfInBounds, List.take_set, h4]

theorem own_slot {W : World} {base : Nat} {e : TypeId} {g n cap : Nat} {xs : List Value} (h : W.ownsRow base e 1 (.slice (some ⟨g, 0, none⟩) n cap) n xs) : base ≤ g ∧ g < W.heap.size ∧ (∀ i, W.frozen? ⟨g, i, none⟩ = false) ∧ (∀ (i : Nat) (x : Value), xs[i]? = some x → W.cell? ⟨g, i, none⟩ = some x) ∧ cap ≤ 9223372036854775807 ∧ n ≤ cap ∧ ∀ (t : TypeId) (cs : Array Value) (b : Nat), t ≠ e → Blk W b cs t → b ≠ g := by
  have hh := h
  rcases h.2 with ⟨e1, _⟩ | ⟨g', cap', cur, e1, hb, hg, h1, h2, h3, h4⟩
  · simp at e1
  · simp at e1
    obtain ⟨rfl, rfl⟩ := e1
    refine ⟨hb, (Array.getElem?_eq_some_iff.1 hg).1, fun i => Blk.free hg i, fun i x hx => ?_, by unfold maxLen at h2; omega, h1, ?_⟩
    · have := hh.cells rfl i x hx
      rw [Addr.add_lit, Nat.zero_add] at this
      exact this
    · rintro t cs b ht hB rfl
      have := (show W.heap[b]? = _ from hB).symm.trans hg
      simp at this
      exact ht this.2

/-- What holds behind some coins. -/
def SerI (B many N D : Nat) (l : List UInt8) (pre : List (Nat × Nat)) (W : World) : Prop := ∃ m vs n v, 1 ≤ m ∧ vs.length + m = many ∧ sr N D l many 0 [] 0 = sr N D l m (posOf pre) vs n ∧ posOf pre ≤ l.length ∧
  pre.length + (l.length - posOf pre + m) ≤ l.length + many ∧ n ≤ pre.length ∧ Boxed W (B + 1) 48 v ∧ W.ownsRow B 3 1 v (vs.length + 1) (ints .i64 (vs ++ [n]))

theorem SerI.own {B C many N D : Nat} {l : List UInt8} : OwnFrom C (SerI B many N D l) := by
  rintro s X Y row ⟨m, vs, n, v, h1, h2, h3, h4, h5, h6, hv, hr⟩ hg hrow
  refine ⟨m, vs, n, v, h1, h2, h3, h4, h5, h6, hv.kept hg (fun e' => ?_), hr.kept hg ?_⟩
  · obtain ⟨-, o, ho, hc⟩ := hrow _ e'.symm
    rw [show X.heap[B + 1]? = _ from hv] at ho; cases ho; cases hc
  · rcases hr.2 with ⟨rfl, _⟩ | ⟨g, cap, cur, rfl, _, hgb, _⟩
    · exact .inl rfl
    · refine .inr fun e' => ?_
      obtain ⟨-, o, ho, hc⟩ := hrow g (by simpa [Value.ownBlock] using e'.symm)
      rw [hgb] at ho; cases ho; cases hc

/-- What holds behind the last round. -/
def SerX (A B many N D : Nat) (l : List UInt8) (W : World) : Prop := ∃ vs x v, sr N D l many 0 [] 0 = some (vs, x) ∧ vs.length = many ∧ Blk W (A + 1) #[v] 48 ∧ Blk W (A + 1 + 1) #[.int .i64 (x : Nat)] 3 ∧ Blk W (A + 1 + 1 + 1) #[.bool true] 4 ∧ W.ownsRow B 3 1 v vs.length (ints .i64 vs)

theorem SerX.keptX {A B many N D : Nat} {l : List UInt8} {X Y : World} {row : Option Nat} (h : SerX A B many N D l X) (hg : X.grownBy Y row) (hrow : ∀ r, row = some r → ∃ o : Obj, X.heap[r]? = some o ∧ o.isCells = false) : SerX A B many N D l Y := by
  obtain ⟨vs, x, v, h1, h2, h3, h4, h5, hr⟩ := h
  refine ⟨vs, x, v, h1, h2, h3.kept hg hrow, h4.kept hg hrow, h5.kept hg hrow, hr.kept hg ?_⟩
  rcases hr.2 with ⟨rfl, _⟩ | ⟨g, cap, cur, rfl, _, hgb, _⟩
  · exact .inl rfl
  · refine .inr fun e' => ?_
    obtain ⟨o, ho, hc⟩ := hrow g (by simpa [Value.ownBlock] using e'.symm)
    rw [hgb] at ho; cases ho; cases hc

/-- What the call gives back. -/
def SerOut (r : Option (List Nat × Nat)) (e : Ending) (w' : World) : Prop := match r with
  | none => e = .returned (.tuple #[.slice none 0 0, .int .i64 0, .bool false])
  | some (vs, x) => ∃ v, e = .returned (.tuple #[v, .int .i64 (x : Nat), .bool true]) ∧ Row w' v (ints .i64 vs)

set_option maxRecDepth 100000 in
set_option maxHeartbeats 4000000 in
theorem g_series (w : World) (a b : ByteArray) (many : Nat) (h1 : 1 ≤ many) (h2 : many ≤ 1000) (ha : a.size ≤ 100000) (hc : chkE b = 0) (he : cPE a = 0) (hND : bN (cW a) < bN (qD a)) (hL : Lay w) :
    Calls Tryz.prog 47 #[.string a, .string b, .int .i64 (many : Nat)] w fun e w' => SerOut (sr (bN (cW a)) (bN (qD a)) b.data.toList many 0 [] 0) e w' ∧ Below w.heap.size w w' := by
  have HL := hid hL; have HC := hid hc; have HE := hid he; have HND := hid hND; have H1 := hid h1; have H2 := hid h2; have HA := hid ha
  have hbs : b.size ≤ 256 := by
    have h5 := (bit_drop hc 0).2.1
    have h6 := list_size (b.extract 0 b.size)
    have h7 := (bit_drop hc 0).2.2
    rw [h5, List.drop_zero, list_size] at h6
    omega
  have HBS := hid hbs
  clear hL hc he hND ha hbs
  obtain ⟨N, hN⟩ : ∃ N, bN (cW a) = N := ⟨_, rfl⟩
  obtain ⟨D, hD⟩ : ∃ N, bN (qD a) = N := ⟨_, rfl⟩
  have HN := hid hN; have HD := hid hD
  rw [hN, hD] at HND ⊢
  clear hN hD
  obtain ⟨L, hL⟩ : ∃ L, b.data.toList = L := ⟨_, rfl⟩
  have HLL := hid (show L.length = b.size from by rw [← hL]; exact list_size b)
  have HLQ := hid hL
  rw [hL]
  clear hL
  refine (callsIn_wide (n := 9)).1 ?_
  refine callsIn_of_wp_marks Tryz.func47 rfl trivial ?_ rfl
  simp only [Tryz.ntmps47, List.size_toArray, List.length_cons, List.length_nil, Nat.reduceAdd, Nat.reduceSub, Array.replicate_succ, Array.replicate_zero, List.push_toArray, List.append_toArray, List.nil_append, List.cons_append]
  gi_wp2_with fail
  refine wpIn_scope ?_
  gi_wp2_with fail
  refine wpIn_label ?_
  gi_wp2_with (refine ⟨trivial, ?_⟩; gi_at_call 89; refine (callsIn_wide.2 (g_coins _ _ _)).mono ?_; rintro e w' ⟨rfl, rfl⟩)
  obtain ⟨i0, hi, hz0, hz1, hz2⟩ := info_parts info_i64
  obtain ⟨W0, hW0⟩ : ∃ W0, (((((((w.alloc (.cells #[.int .i64 (many : Nat)] 3)).alloc (.cells #[.slice none 0 0] 48)).alloc (.cells #[.int .i64 0] 3)).alloc (.cells #[.bool false] 4)).alloc (.cells #[.int .i64 0] 3)).alloc
    (.cells #[.slice (some ⟨w.heap.size + 1 + 1 + 1 + 1, 0, none⟩) 1 1] 48)).alloc (.cells #[.string a] 22)).alloc (.cells #[.string b] 23) = W0 := ⟨_, rfl⟩
  have y0 : Blk W0 w.heap.size #[.int .i64 (many : Nat)] 3 := by rw [← hW0]; exact (((((((Blk.new w _ _).alloc _).alloc _).alloc _).alloc _).alloc _).alloc _).alloc _
  have y1 : Blk W0 (w.heap.size + 1) #[.slice none 0 0] 48 := by rw [← hW0]; exact ((((((Blk.made _ _ _ (by simp)).alloc _).alloc _).alloc _).alloc _).alloc _).alloc _
  have y2 : Blk W0 (w.heap.size + 1 + 1) #[.int .i64 0] 3 := by rw [← hW0]; exact (((((Blk.made _ _ _ (by simp)).alloc _).alloc _).alloc _).alloc _).alloc _
  have y3 : Blk W0 (w.heap.size + 1 + 1 + 1) #[.bool false] 4 := by rw [← hW0]; exact ((((Blk.made _ _ _ (by simp)).alloc _).alloc _).alloc _).alloc _
  have y4 : Blk W0 (w.heap.size + 1 + 1 + 1 + 1) #[.int .i64 0] 3 := by rw [← hW0]; exact (((Blk.made _ _ _ (by simp)).alloc _).alloc _).alloc _
  have y5 : Blk W0 (w.heap.size + 1 + 1 + 1 + 1 + 1) #[.slice (some ⟨w.heap.size + 1 + 1 + 1 + 1, 0, none⟩) 1 1] 48 := by rw [← hW0]; exact ((Blk.made _ _ _ (by simp)).alloc _).alloc _
  have y6 : Blk W0 (w.heap.size + 1 + 1 + 1 + 1 + 1 + 1) #[.string a] 22 := by rw [← hW0]; exact (Blk.made _ _ _ (by simp)).alloc _
  have y7 : Blk W0 (w.heap.size + 1 + 1 + 1 + 1 + 1 + 1 + 1) #[.string b] 23 := by rw [← hW0]; exact Blk.made _ _ _ (by simp)
  have b0 : Below w.heap.size w W0 := by
    rw [← hW0]
    exact ((((((((Below.refl _ _).alloc (Nat.le_refl _) _).alloc (by simp) _).alloc (by simp <;> omega) _).alloc (by simp <;> omega) _).alloc (by simp <;> omega) _).alloc (by simp <;> omega) _).alloc (by simp <;> omega) _).alloc (by simp <;> omega) _
  have z0 : W0.heap.size = w.heap.size + 1 + 1 + 1 + 1 + 1 + 1 + 1 + 1 := by rw [← hW0]; simp
  rw [hW0]
  have Y0 := hid y0; have Y1 := hid y1; have Y2 := hid y2; have Y3 := hid y3; have Y4 := hid y4; have Y5 := hid y5; have Y6 := hid y6; have Y7 := hid y7; have HB0 := hid b0; have Z0 := hid z0
  clear y0 y1 y2 y3 y4 y5 y6 y7 b0 z0 hW0
  obtain ⟨B, hB⟩ : ∃ B, w.heap.size + 1 + 1 + 1 + 1 = B := ⟨_, rfl⟩
  rw [hB] at Y4 Y5 Y6 Y7 Z0 ⊢
  have HBB := hid hB
  clear hB
  have hread : ∀ W1 W2, Below W0.heap.size W0 W1 → KpS B (B + 1 + 1) (B + 1 + 1 + 1) W1 W2 → W2.cell? ⟨B + 1 + 1, 0, none⟩ = some (.string a) ∧ W2.cell? ⟨B + 1 + 1 + 1, 0, none⟩ = some (.string b) ∧ Lay W2 := fun W1 W2 b1 b2 => by
    have hs := b1.size
    have hz := Z0.out
    obtain ⟨r1, r2, r3⟩ := b2.rest (by omega) (by omega) (by omega)
    have g1 : Blk W2 (B + 1 + 1) #[.string a] 22 := r2.trans (Y6.out.call b1)
    have g2 : Blk W2 (B + 1 + 1 + 1) #[.string b] 23 := r3.trans (Y7.out.call b1)
    refine ⟨g1.cell 0, g2.cell 0, HL.out.call ?_⟩
    have hb := HBB.out
    exact (HB0.out.trans (b1.mono (by omega))).trans (r1.mono (by omega))
  refine range_okB (by omega) (gf := 131) (lb := #[.pointer (some ⟨B + 1 + 1, 0, none⟩), .pointer (some ⟨B + 1 + 1 + 1, 0, none⟩)]) rfl (enters_of Tryz.func131 (by kernel_rfl) rfl)
    (coins_feeds (Kp := KpS B (B + 1 + 1) (B + 1 + 1 + 1)) (L.length + many) 8 (by omega) W0 _ _ a b (KpS.refl _ _ _) KpS.trans HA.out HC.out HE.out hread (fun _ _ => KpS.of_below)) KpS.trans (KpS.put (by have := Z0.out; omega) (by have := Z0.out; omega) (by have := Z0.out; omega)) (Below.refl _ _) (fun _ => rfl)
    (fun pre W => (SerI B many N D L pre W ∧ Blk W (B + 1 + 1) #[.string a] 22 ∧ Blk W (B + 1 + 1 + 1) #[.string b] 23) ∧ Below B W0 W)
    (fun c pre W => (c = .ret ∧ SerX w.heap.size B many N D L W) ∧ Below w.heap.size w W)
    (OwnFrom.and (fun s X Y row hs hg hr => ⟨SerI.own s X Y row hs.1 hg hr, hs.2.1.kept hg (fun r e => (hr r e).2), hs.2.2.kept hg (fun r e => (hr r e).2)⟩) (ownFrom_below (by have := Z0.out; omega) (by have := Z0.out; omega)))
    (fun c => OwnFrom.and (fun s X Y row hs hg hr => ⟨hs.1, hs.2.keptX hg (fun r e => (hr r e).2)⟩) (ownFrom_below (Nat.le_refl _) (by have := Z0.out; have := HBB.out; omega)))
    ⟨⟨⟨many, [], 0, _, H1.out, by simp, rfl, Nat.zero_le _, by simp [posOf_nil], Nat.zero_le _, Y5.out, owns_one Y4.out⟩, Y6.out, Y7.out⟩, Below.refl _ _⟩
    (fun pre W h => by obtain ⟨m, vs, n, v, _, _, _, _, h5, _⟩ := h.1.1; omega) ?act ?assign ?body ?done ?stop
  case assign =>
    intro l x W K hK
    gi_wp2
    exact hK
  case body =>
    rintro l pre ⟨q, val⟩ W ⟨hd, hx⟩ ⟨⟨⟨m, vs, n, v, i1, i2, i3, i4, i5, i6, hv, hr⟩, ha6, hb7⟩, hB⟩
    rw [HN.out, HD.out, HLQ.out] at hd hx
    obtain ⟨p, hp⟩ : ∃ p, posOf pre = p := ⟨_, rfl⟩
    rw [hp] at hd hx i3 i4 i5
    have hle := coinF_le (N := N) (D := D) i4
    have hval : (coinF N D L p).2.1 ≤ 1 := by rw [coinF_eq]; exact toss_val _ _ _ _ _
    simp only [Prod.mk.injEq] at hx
    obtain ⟨hq, hvv⟩ := hx
    obtain ⟨g, cap, rfl⟩ := ownsRow_succ hr
    obtain ⟨k, hk⟩ : ∃ k, vs.length = k := ⟨_, rfl⟩
    rw [hk] at hr i2 hv
    obtain ⟨o1, o2, o3, o4, o5, o6, o7⟩ := own_slot hr
    have c0 : W.cell? ⟨g, k, none⟩ = some (.int .i64 (n : Nat)) := o4 k _ (by rw [ints_append, List.getElem?_append_right (by rw [ints_length]; omega), ints_length, hk, Nat.sub_self]; rfl)
    have c1 : W.cell? ⟨B + 1, 0, none⟩ = some (.slice (some ⟨g, 0, none⟩) (k + 1) cap) := Blk.cell hv 0
    have c2 : W.frozen? ⟨B + 1, 0, none⟩ = false := Blk.free hv 0
    have c3 : W.cell? ⟨w.heap.size, 0, none⟩ = some (.int .i64 (many : Nat)) := (Y0.out.below hB (by have := HBB.out; omega)).cell 0
    have r1 := Y1.out.below hB (by have := HBB.out; omega)
    have r2 := Y2.out.below hB (by have := HBB.out; omega)
    have r3 := Y3.out.below hB (by have := HBB.out; omega)
    have c4 := r1.cell 0
    have c5 := r2.cell 0
    have c6 := r3.cell 0
    have c7 := r1.free 0
    have c8 := r2.free 0
    have c9 := r3.free 0
    have d0 := o3 k
    simp at c4 c5 c6
    have hkm : k < 1000 := by have := H2.out; omega
    have hn : n < 3000 := by have h2 := H2.out; have h3 := HBS.out; have h4 := HLL.out; omega
    have w1 : IntKind.i64.wrap (((k + 1 : Nat) : Int) - 1) = (k : Int) := by rw [IntWalk.i64_in _ ⟨by omega, by omega⟩]; omega
    have w2 : IntKind.i64.wrap ((n : Int) + 1) = (n : Int) + 1 := by rw [IntWalk.i64_in _ ⟨by omega, by omega⟩]
    have I1 := hid i1; have I2 := hid i2; have I3 := hid i3; have I4 := hid i4; have I5 := hid i5; have I6 := hid i6; have HV := hid hv; have HR := hid hr; have HBW := hid hB; have HP := hid hp; have HD1 := hid hd; have HLE := hid hle; have HVAL := hid hval; have HQ := hid hq; have HVV := hid hvv; have HKK := hid hk
    have A6 := hid ha6; have A7 := hid hb7; have N6 := hid (o7 _ _ _ (by decide) ha6); have N7 := hid (o7 _ _ _ (by decide) hb7); have N5 := hid (o7 _ _ _ (by decide) hv)
    clear ha6 hb7
    have R1 := hid r1; have R2 := hid r2; have R3 := hid r3; have HC0 := hid o1; have HC1 := hid o2; have HO7 := hid o7
    clear i1 i2 i3 i4 i5 i6 hv hr hB hp hd hle hval hq hvv hk r1 r2 r3 o1 o2 o3 o4 o7
    by_cases h1 : val = 1
    · have q0 : ((val : Int) == 1) = true := by rw [h1]; rfl
      have HV1 := hid h1
      clear h1
      gi_wp2_with fail
      have e1 : ((n : Int) + 1) = ((n + 1 : Nat) : Int) := rfl
      have hu := coinF_one HND.out HD1.out (HVV.out.symm.trans HV1.out)
      have hser := sr_one (vs := vs) (n := n) HND.out I1.out I4.out HD1.out (HVV.out.symm.trans HV1.out)
      have hq := HQ.out; have h5 := I5.out; have h6 := I6.out; have hle := HLE.out
      refine ⟨(KeepsOthers.setCell _ _ _).from _, ⟨by simp [World.setCell], fun _ _ _ => ⟨(Below.refl _ _).setCell HC0.out _, Below.heap_setCell _ _ _ _ (fun e => N6.out e), Below.heap_setCell _ _ _ _ (fun e => N7.out e)⟩⟩, ⟨⟨m, vs, n + 1, _, I1.out, by rw [HKK.out]; exact I2.out, ?_, ?_, ?_, ?_, Blk.other HV.out (fun e => N5.out e.symm) _, ?_⟩, Blk.other A6.out (fun e => N6.out e.symm) _, Blk.other A7.out (fun e => N7.out e.symm) _⟩, HBW.out.setCell HC0.out _⟩
      · rw [posOf_snoc, I3.out, hser, hq]
      · rw [posOf_snoc]; show q ≤ _; omega
      · rw [posOf_snoc, List.length_append, List.length_singleton]; show pre.length + 1 + (L.length - q + m) ≤ _; omega
      · rw [List.length_append, List.length_singleton]; omega
      · rw [HKK.out]
        have h7 := own_set HR.out k (.int .i64 ((n + 1 : Nat) : Int))
        rw [ints_set, List.set_append_right _ _ (Nat.le_of_eq HKK.out), HKK.out, Nat.sub_self] at h7
        exact h7
    · have q0 : ((val : Int) == 1) = false := by rw [beq_eq_false_iff_ne]; omega
      have HV0 := hid h1
      have hnv := hid (show ¬ (coinF N D L p).2.1 = 1 from by rw [← HVV.out]; exact h1)
      clear h1
      by_cases h2 : k + 1 = many
      · have q1 : (((k : Int) + 1) == (many : Int)) = true := by rw [beq_iff_eq]; omega
        have HM := hid h2
        clear h2
        gi_wp2_with fail
        have hm1 : m = 1 := by have := I2.out; have := HM.out; omega
        have h8 := HBB.out; have h9 := HC0.out
        have hstop := sr_stop (vs := vs) (n := n) HD1.out hnv.out
        refine ⟨(((KeepsOthers.setCell _ _ _).trans (KeepsOthers.setCell _ _ _)).trans (KeepsOthers.setCell _ _ _)).from _, ⟨rfl, vs ++ [n], q, .slice (some ⟨g, 0, none⟩) (k + 1) cap, ?_, ?_, ?_, ?_, ?_, ?_⟩, ?_⟩
        · rw [I3.out, hm1, hstop, HQ.out]
        · rw [List.length_append, HKK.out]; exact HM.out
        · exact (((R1.out.set 0 _).other (by simp) _).other (by simp <;> omega) _)
        · exact ((R2.out.other (by simp) _).set 0 _).other (by simp) _
        · exact ((R3.out.other (by simp <;> omega) _).other (by simp) _).set 0 _
        · rw [List.length_append, HKK.out]
          exact ((ownsRow_setCell_below (ownsRow_setCell_below (ownsRow_setCell_below HR.out (by simp <;> omega) _) (by simp <;> omega) _) (by simp <;> omega) _))
        · exact (((HB0.out.trans (HBW.out.mono (by omega))).setCell (by simp <;> omega) _).setCell (by simp <;> omega) _).setCell (by simp <;> omega) _
      · have q1 : (((k : Int) + 1) == (many : Int)) = false := by rw [beq_eq_false_iff_ne]; omega
        have HM := hid h2
        clear h2
        gi_wp2_with (gi_at_builtin; refine wpListIn_append_own _ rfl _ _ 48 rfl B 3 i0 (.int .i64 0) 1 8 Tryz.underlying48 hi hz0 hz1 hz2 rfl (by decide) _ (k + 1) _ rfl (HR.out.alloc _) ⟨W.heap.size, 0, none⟩ 1 1 [.int .i64 0] rfl rfl (cell_one_new W (.int .i64 0) 3) (by simp [Value.oneCell']) (by unfold maxLen; omega) (by omega) (by have := HC0.out; have := HC1.out; simp; omega) ?_; intro v' w3 hown3 hgrow3 _
                     obtain ⟨g2, cap2, rfl⟩ := ownsRow_succ hown3
                     obtain ⟨e1, e2, e3, e4, e5⟩ := Boxed.appended (B := B + 1) HV.out (by decide) HR.out (by have := HC0.out; have := HC1.out; omega) (Nat.le_succ B) hown3 hgrow3
                     have k0 := e1.cell
                     have k1 := e1.frozen
                     have E1 := hid e1; have E2 := hid e2; have E3 := hid e3; have E4 := hid e4; have E5 := hid e5; have HG3 := hid hgrow3
                     clear e1 e2 e3 e4 e5 hown3 hgrow3)
        have hm2 : 2 ≤ m := by have := I1.out; have := I2.out; have := HM.out; omega
        have hser := sr_more (vs := vs) (n := n) HND.out hm2 I4.out HD1.out hnv.out
        have hq := HQ.out; have h5 := I5.out; have h6 := I6.out; have hle := HLE.out
        have hg : (W.alloc (.cells #[.int .i64 0] 3)).grownBy w3 (some g) := HG3.out
        have A6' := (((A6.out.alloc (.cells #[.int .i64 0] 3)).grown hg (fun e => N6.out (by cases e; rfl))).other (a := ⟨B + 1, 0, none⟩) (by simp) (.slice (some ⟨g2, 0, none⟩) (k + 1 + 1) cap2))
        have A7' := (((A7.out.alloc (.cells #[.int .i64 0] 3)).grown hg (fun e => N7.out (by cases e; rfl))).other (a := ⟨B + 1, 0, none⟩) (by simp <;> omega) (.slice (some ⟨g2, 0, none⟩) (k + 1 + 1) cap2))
        refine ⟨E4.out.from _, ⟨E5.out.size, fun _ _ _ => ⟨E5.out, A6'.trans (Eq.symm A6.out), A7'.trans (Eq.symm A7.out)⟩⟩, ⟨⟨m - 1, vs ++ [n], 0, _, by omega, by rw [List.length_append, HKK.out]; have := I2.out; simp <;> omega, ?_, ?_, ?_, Nat.zero_le _, E2.out, ?_⟩, A6', A7'⟩, HBW.out.trans E5.out⟩
        · rw [posOf_snoc, I3.out, hser, hq]
        · rw [posOf_snoc]; show q ≤ _; omega
        · rw [posOf_snoc, List.length_append, List.length_singleton]; show pre.length + 1 + (L.length - q + (m - 1)) ≤ _; omega
        · have h7 := E3.out
          rw [List.length_append, List.length_singleton, HKK.out, ints_append]
          exact h7
  case done =>
    rintro D' xs W hD hS ⟨⟨⟨m, vs, n, v, i1, i2, i3, i4, i5, i6, hv, hr⟩, ha6, hb7⟩, hB⟩ hK
    rw [HN.out, HD.out, HLQ.out] at hS
    have hsn := hid (i3.trans (sr_late i1 hS))
    have r1 := Y1.out.below hB (by have := HBB.out; omega)
    have r2 := Y2.out.below hB (by have := HBB.out; omega)
    have r3 := Y3.out.below hB (by have := HBB.out; omega)
    have c4 := r1.cell 0
    have c5 := r2.cell 0
    have c6 := r3.cell 0
    have c7 := r1.free 0
    have c8 := r2.free 0
    have c9 := r3.free 0
    simp at c4 c5 c6
    have R1 := hid r1; have R2 := hid r2; have R3 := hid r3; have HBW := hid hB; have HK := hid hK; have HDD := hid hD
    clear i1 i2 i3 i4 i5 i6 hv hr ha6 hb7 hB hK hS r1 r2 r3 hD
    gi_wp2_with fail
    have q1 := ((R1.out.set 0 (.slice none 0 0)).other (a := ⟨w.heap.size + 1 + 1, 0, none⟩) (by simp) (.int .i64 0)).other (a := ⟨w.heap.size + 1 + 1 + 1, 0, none⟩) (by simp <;> omega) (.bool false)
    have q2 := ((R2.out.other (a := ⟨w.heap.size + 1, 0, none⟩) (by simp) (.slice none 0 0)).set 0 (.int .i64 0)).other (a := ⟨w.heap.size + 1 + 1 + 1, 0, none⟩) (by simp) (.bool false)
    have q3 := ((R3.out.other (a := ⟨w.heap.size + 1, 0, none⟩) (by simp <;> omega) (.slice none 0 0)).other (a := ⟨w.heap.size + 1 + 1, 0, none⟩) (by simp) (.int .i64 0)).set 0 (.bool false)
    have hk3 := ((((KeepsOthers.setCell W ⟨w.heap.size + 1, 0, none⟩ (.slice none 0 0)).trans (KeepsOthers.setCell _ ⟨w.heap.size + 1 + 1, 0, none⟩ (.int .i64 0))).trans (KeepsOthers.setCell _ ⟨w.heap.size + 1 + 1 + 1, 0, none⟩ (.bool false)))).same D' _ HK.out rfl
    have p1 := (q1.put hk3 (.deferred none)).cell 0
    have p2 := (q2.put hk3 (.deferred none)).cell 0
    have p3 := (q3.put hk3 (.deferred none)).cell 0
    simp at p1 p2 p3
    have h8 := HBB.out; have h9 := HDD.out; have hz := Z0.out
    refine marks_end hk3 (v := .tuple #[.slice none 0 0, .int .i64 0, .bool false]) (by simp [results, Tryz.results47, go_sem, p1, p2, p3]) ⟨by rw [hsn.out]; first | done | rfl, ?_⟩
    exact ((((HB0.out.trans (HBW.out.mono (by omega))).setCell (by simp <;> omega) _).setCell (by simp <;> omega) _).setCell (by simp <;> omega) _).trans (belowK_b (w := w) (Nat.le_refl _) _ D' _ _ (by omega) hk3 rfl rfl)
  case stop =>
    rintro D' c pre W hD - ⟨⟨rfl, vs, x, v, h1, h2, h3, h4, h5, hr⟩, hB⟩ hK
    have p1 := (h3.put hK (.deferred none)).cell 0
    have p2 := (h4.put hK (.deferred none)).cell 0
    have p3 := (h5.put hK (.deferred none)).cell 0
    have hrow : Row (W.putObj D' (.deferred none)) v (ints .i64 vs) := Row.put (Row.of_owns hr) hK _
    simp at p1 p2 p3
    have H1' := hid h1; have HROW := hid hrow; have HB' := hid hB; have HK := hid hK; have HDD := hid hD
    obtain ⟨a3, c3, rfl⟩ := owns_ex hr
    clear h1 h3 h4 h5 hr hrow hB hD
    gi_wp2_with fail
    have h8 := HBB.out; have h9 := HDD.out; have hz := Z0.out
    refine marks_end hK (v := .tuple #[.slice a3 vs.length c3, .int .i64 (x : Nat), .bool true]) (by simp [results, Tryz.results47, go_sem, p1, p2, p3]) ⟨?_, ?_⟩
    · rw [H1'.out]; exact ⟨_, rfl, HROW.out⟩
    · exact HB'.out.trans (belowK_b (w := w) (Nat.le_refl _) _ D' _ _ (by omega) hK rfl rfl)
end Go.Proofs.YtikfgddgfddbaaaGreatDoor

/- Walks: geom.draw. -/
namespace Go.Proofs.YtikfgddgfddbaaaGreatDoor
open Go.RowKit Go.Shelf
open Go.Lib (decDigits nDigits)
set_option linter.unusedVariables false
set_option linter.unusedSimpArgs false

theorem gPE_ok {p : ByteArray} (h : gPE p = 0) : cPE p = 0 ∧ bN (cW p) < bN (qD p) := by
  unfold gPE at h
  split at h
  · rename_i he
    exact absurd h he
  · rename_i he
    have he' : qE p = 0 := Decidable.not_not.1 he
    split at h
    · cases h
    · rename_i h2
      split at h
      · cases h
      · rename_i h3
        obtain ⟨a, b, c, d, e1, e2⟩ := parts_ok he' (fun h => h2 (.inl h)) h3
        have h4 : ¬ 0 ≤ cmpN (cW p).data.toList (qD p).data.toList := fun h => h2 (.inr h)
        refine ⟨?_, ?_⟩
        · rw [cPE, if_neg he, if_neg (fun h => ?_), if_neg h3]
          rcases h with h | h
          · exact h2 (.inl h)
          · exact h4 (by omega)
        · rw [cmpN, if_pos ⟨e1, e2⟩, ordN] at h4
          show dv _ < dv _
          split at h4
          · assumption
          · split at h4 <;> simp at h4

theorem gE_ok {a b : ByteArray} (h : gE a b = 0) : gPE a = 0 ∧ chkE b = 0 := by
  unfold gE at h
  split at h
  · rename_i h1; exact absurd h h1
  · rename_i h1; exact ⟨Decidable.not_not.1 h1, h⟩

set_option maxRecDepth 100000 in
set_option maxHeartbeats 1000000 in
theorem g_draw_none (w : World) (a b : ByteArray) (many : Nat) (h1 : 1 ≤ many) (h2 : many ≤ 1000) (ha : a.size ≤ 100000) (hb : b.size ≤ 100000) (he : gE a b = 0) (hL : Lay w)
    (hr : sr (bN (cW a)) (bN (qD a)) b.data.toList many 0 [] 0 = none) :
    Calls Tryz.prog 23 #[.string a, .string b, .int .i64 (many : Nat)] w fun e w' => e = .returned (.tuple #[.agg #[.bool false, .int .i64 0, .int .i64 (b.size : Nat)], .int .i64 0]) ∧ Below w.heap.size w w' := by
  have HC := fun V hV => hid (g_check V a b ha hb hV)
  have HS := fun V hV => hid (g_series V a b many h1 h2 ha (gE_ok he).2 (gPE_ok (gE_ok he).1).1 (gPE_ok (gE_ok he).1).2 hV)
  rw [he] at HC
  rw [hr] at HS
  simp only [SerOut] at HS
  have HL := hid hL
  have b0 := hid ((Below.refl w.heap.size w).alloc (Nat.le_refl _) (.cells #[.bool false, .int .i64 0, .int .i64 0] 26))
  have x0 := hid (Blk.new w #[.bool false, .int .i64 0, .int .i64 0] 26)
  clear h1 h2 ha hb he hL hr
  go_enter Tryz.func23, Tryz.ntmps23
  go_wp2_with fail
  refine (HC _ (HL.out.call b0.out)).out.mono ?_; rintro e w1 ⟨rfl, hb1⟩
  have b1 := hid (bnext b0.out hb1); have x1 := hid (x0.out.call hb1)
  clear hb1
  go_wp2_with fail
  refine (HS _ (HL.out.call b1.out)).out.mono ?_; rintro e w2 ⟨rfl, hb2⟩
  have b2 := hid (bnext b1.out hb2); have x2 := hid (x1.out.call hb2)
  have r0 : w2.cell? ⟨w.heap.size, 0, none⟩ = some (.bool false) := x2.out.cell 0
  have r1 : w2.cell? ⟨w.heap.size, 1, none⟩ = some (.int .i64 0) := x2.out.cell 1
  have r2 : w2.cell? ⟨w.heap.size, 2, none⟩ = some (.int .i64 0) := x2.out.cell 2
  have f0 := x2.out.free 0
  have f1 := x2.out.free 1
  have f2 := x2.out.free 2
  clear hb2
  go_wp2_with fail
  have s3 := ((x2.out.set 0 (.bool false)).set 1 (.int .i64 0)).set 2 (.int .i64 (b.size : Nat))
  have k0 := s3.cell 0
  have k1 := s3.cell 1
  have k2 := s3.cell 2
  simp at k0 k1 k2
  refine bodyPost_ret (v := .tuple #[.agg #[.bool false, .int .i64 0, .int .i64 (b.size : Nat)], .int .i64 0]) (by simp [results, Tryz.results23, go_sem, k0, k1, k2]) rfl ⟨rfl, ?_⟩
  exact ((b2.out.setCell (Nat.le_refl _) _).setCell (Nat.le_refl _) _).setCell (Nat.le_refl _) _

set_option maxRecDepth 100000 in
set_option maxHeartbeats 1000000 in
theorem g_draw_bad (w : World) (a b : ByteArray) (many : Nat) (ha : a.size ≤ 100000) (hb : b.size ≤ 100000) (he : gE a b ≠ 0) (hL : Lay w) :
    Calls Tryz.prog 23 #[.string a, .string b, .int .i64 (many : Nat)] w fun e w' => e = .returned (.tuple #[.agg #[.bool false, .int .i64 0, .int .i64 0], .int .i64 (gE a b)]) ∧ Below w.heap.size w w' := by
  have HC := fun V hV => hid (g_check V a b ha hb hV)
  obtain ⟨x, hx⟩ : ∃ x, gE a b = x := ⟨_, rfl⟩
  rw [hx] at HC he ⊢
  have q0 : (x == 0) = false := by simpa using he
  have q1 : (x != 0) = true := by simpa using he
  have HL := hid hL
  have b0 := hid ((Below.refl w.heap.size w).alloc (Nat.le_refl _) (.cells #[.bool false, .int .i64 0, .int .i64 0] 26))
  have x0 := hid (Blk.new w #[.bool false, .int .i64 0, .int .i64 0] 26)
  clear ha hb he hL hx
  go_enter Tryz.func23, Tryz.ntmps23
  go_wp2_with fail
  refine (HC _ (HL.out.call b0.out)).out.mono ?_; rintro e w2 ⟨rfl, hb2⟩
  have b2 := hid (bnext b0.out hb2); have x2 := hid (x0.out.call hb2)
  have r0 : w2.cell? ⟨w.heap.size, 0, none⟩ = some (.bool false) := x2.out.cell 0
  have r1 : w2.cell? ⟨w.heap.size, 1, none⟩ = some (.int .i64 0) := x2.out.cell 1
  have r2 : w2.cell? ⟨w.heap.size, 2, none⟩ = some (.int .i64 0) := x2.out.cell 2
  have f0 := x2.out.free 0
  have f1 := x2.out.free 1
  have f2 := x2.out.free 2
  clear hb2
  go_wp2_with fail
  have s3 := ((x2.out.set 0 (.bool false)).set 1 (.int .i64 0)).set 2 (.int .i64 0)
  have k0 := s3.cell 0
  have k1 := s3.cell 1
  have k2 := s3.cell 2
  simp at k0 k1 k2
  refine bodyPost_ret (v := .tuple #[.agg #[.bool false, .int .i64 0, .int .i64 0], .int .i64 x]) (by simp [results, Tryz.results23, go_sem, k0, k1, k2]) rfl ⟨rfl, ?_⟩
  exact ((b2.out.setCell (Nat.le_refl _) _).setCell (Nat.le_refl _) _).setCell (Nat.le_refl _) _

set_option maxRecDepth 100000 in
set_option maxHeartbeats 1000000 in
theorem g_draw_one (w : World) (a b : ByteArray) (x p : Nat) (hx : x ≤ 100000) (hp : p ≤ 100000) (ha : a.size ≤ 100000) (hb : b.size ≤ 100000) (he : gE a b = 0) (hL : Lay w)
    (hr : sr (bN (cW a)) (bN (qD a)) b.data.toList 1 0 [] 0 = some ([x], p)) :
    Calls Tryz.prog 23 #[.string a, .string b, .int .i64 1] w fun e w' => e = .returned (.tuple #[.agg #[.bool true, .int .i64 (x : Nat), .int .i64 (p : Nat)], .int .i64 0]) ∧ Below w.heap.size w w' := by
  have HC := fun V hV => hid (g_check V a b ha hb hV)
  have HS := fun V hV => hid (g_series V a b 1 (by omega) (by omega) ha (gE_ok he).2 (gPE_ok (gE_ok he).1).1 (gPE_ok (gE_ok he).1).2 hV)
  rw [he] at HC
  rw [hr] at HS
  simp only [SerOut] at HS
  have HL := hid hL
  have b0 := hid ((Below.refl w.heap.size w).alloc (Nat.le_refl _) (.cells #[.bool false, .int .i64 0, .int .i64 0] 26))
  have x0 := hid (Blk.new w #[.bool false, .int .i64 0, .int .i64 0] 26)
  clear ha hb he hL hr
  go_enter Tryz.func23, Tryz.ntmps23
  go_wp2_with fail
  refine (HC _ (HL.out.call b0.out)).out.mono ?_; rintro e w1 ⟨rfl, hb1⟩
  have b1 := hid (bnext b0.out hb1); have x1 := hid (x0.out.call hb1)
  clear hb1
  go_wp2_with fail
  refine (HS _ (HL.out.call b1.out)).out.mono ?_; rintro e w2 ⟨⟨v, rfl, hv⟩, hb2⟩
  have b2 := hid (bnext b1.out hb2); have x2 := hid (x1.out.call hb2)
  obtain ⟨a3, c3, rfl, h3, h4, h5⟩ := hv.openI
  obtain ⟨g, o, rfl, -, hc⟩ := h5 0 x rfl
  rw [Nat.add_zero] at hc
  have r0 : w2.cell? ⟨w.heap.size, 0, none⟩ = some (.bool false) := x2.out.cell 0
  have r1 : w2.cell? ⟨w.heap.size, 1, none⟩ = some (.int .i64 0) := x2.out.cell 1
  have r2 : w2.cell? ⟨w.heap.size, 2, none⟩ = some (.int .i64 0) := x2.out.cell 2
  have f0 := x2.out.free 0
  have f1 := x2.out.free 1
  have f2 := x2.out.free 2
  clear hb2 hv h5
  simp only [List.length_singleton] at h3 ⊢
  go_wp2_with fail
  all_goals
    go_loop [12, 41] (fun v i => v = .int .i64 (x : Nat) ∧ i = .int .i64 0) (fun _ _ => 0)
    case atStart => exact ⟨rfl, rfl⟩
    case round =>
      obtain ⟨rfl, rfl⟩ := hrel
      go_wp2_with fail
      have s3 := ((x2.out.set 0 (.bool true)).set 1 (.int .i64 (x : Nat))).set 2 (.int .i64 (p : Nat))
      have k0 := s3.cell 0
      have k1 := s3.cell 1
      have k2 := s3.cell 2
      simp at k0 k1 k2
      refine bodyPost_ret (v := .tuple #[.agg #[.bool true, .int .i64 (x : Nat), .int .i64 (p : Nat)], .int .i64 0]) (by simp [results, Tryz.results23, go_sem, k0, k1, k2]) rfl ⟨rfl, ?_⟩
      exact ((b2.out.setCell (Nat.le_refl _) _).setCell (Nat.le_refl _) _).setCell (Nat.le_refl _) _

set_option maxRecDepth 100000 in
set_option maxHeartbeats 1000000 in
theorem g_draw_two (w : World) (a b : ByteArray) (x y p : Nat) (hx : x ≤ 100000) (hy : y ≤ 100000) (hp : p ≤ 100000) (ha : a.size ≤ 100000) (hb : b.size ≤ 100000) (he : gE a b = 0) (hL : Lay w)
    (hr : sr (bN (cW a)) (bN (qD a)) b.data.toList 2 0 [] 0 = some ([x, y], p)) :
    Calls Tryz.prog 23 #[.string a, .string b, .int .i64 2] w fun e w' => e = .returned (.tuple #[.agg #[.bool true, .int .i64 ((x : Int) - (y : Int)), .int .i64 (p : Nat)], .int .i64 0]) ∧ Below w.heap.size w w' := by
  have HC := fun V hV => hid (g_check V a b ha hb hV)
  have HS := fun V hV => hid (g_series V a b 2 (by omega) (by omega) ha (gE_ok he).2 (gPE_ok (gE_ok he).1).1 (gPE_ok (gE_ok he).1).2 hV)
  rw [he] at HC
  rw [hr] at HS
  simp only [SerOut] at HS
  have HL := hid hL
  have b0 := hid ((Below.refl w.heap.size w).alloc (Nat.le_refl _) (.cells #[.bool false, .int .i64 0, .int .i64 0] 26))
  have x0 := hid (Blk.new w #[.bool false, .int .i64 0, .int .i64 0] 26)
  clear ha hb he hL hr
  go_enter Tryz.func23, Tryz.ntmps23
  go_wp2_with fail
  refine (HC _ (HL.out.call b0.out)).out.mono ?_; rintro e w1 ⟨rfl, hb1⟩
  have b1 := hid (bnext b0.out hb1); have x1 := hid (x0.out.call hb1)
  clear hb1
  go_wp2_with fail
  refine (HS _ (HL.out.call b1.out)).out.mono ?_; rintro e w2 ⟨⟨v, rfl, hv⟩, hb2⟩
  have b2 := hid (bnext b1.out hb2); have x2 := hid (x1.out.call hb2)
  obtain ⟨a3, c3, rfl, h3, h4, h5⟩ := hv.openI
  obtain ⟨g, o, rfl, -, hc⟩ := h5 0 x rfl
  obtain ⟨g', o', hgo, -, hd⟩ := h5 1 y rfl
  simp at hgo
  obtain ⟨rfl, rfl⟩ := hgo
  rw [Nat.add_zero] at hc
  have r0 : w2.cell? ⟨w.heap.size, 0, none⟩ = some (.bool false) := x2.out.cell 0
  have r1 : w2.cell? ⟨w.heap.size, 1, none⟩ = some (.int .i64 0) := x2.out.cell 1
  have r2 : w2.cell? ⟨w.heap.size, 2, none⟩ = some (.int .i64 0) := x2.out.cell 2
  have f0 := x2.out.free 0
  have f1 := x2.out.free 1
  have f2 := x2.out.free 2
  clear hb2 hv h5
  simp only [List.length_cons, List.length_nil, Nat.zero_add, Nat.reduceAdd] at h3 ⊢
  have w1 : IntKind.i64.wrap ((x : Int) - (y : Int)) = (x : Int) - (y : Int) := by rw [IntWalk.i64_in _ ⟨by omega, by omega⟩]
  go_wp2_with fail
  all_goals
    go_loop [12, 41] (fun v i => (v = .int .i64 (x : Nat) ∧ i = .int .i64 0) ∨ (v = .int .i64 ((x : Int) - (y : Int)) ∧ i = .int .i64 1)) (fun _ i => 1 - (intOf i).toNat)
    case atStart => exact .inl ⟨rfl, rfl⟩
    case round =>
      rcases hrel with ⟨rfl, rfl⟩ | ⟨rfl, rfl⟩
      · go_wp2_with fail
        go_round
        case rel => exact .inr ⟨rfl, rfl⟩
        case measure => simp [intOf]
      · go_wp2_with fail
        have s3 := ((x2.out.set 0 (.bool true)).set 1 (.int .i64 ((x : Int) - (y : Int)))).set 2 (.int .i64 (p : Nat))
        have k0 := s3.cell 0
        have k1 := s3.cell 1
        have k2 := s3.cell 2
        simp at k0 k1 k2
        refine bodyPost_ret (v := .tuple #[.agg #[.bool true, .int .i64 ((x : Int) - (y : Int)), .int .i64 (p : Nat)], .int .i64 0]) (by simp [results, Tryz.results23, go_sem, k0, k1, k2]) rfl ⟨rfl, ?_⟩
        exact ((b2.out.setCell (Nat.le_refl _) _).setCell (Nat.le_refl _) _).setCell (Nat.le_refl _) _
end Go.Proofs.YtikfgddgfddbaaaGreatDoor

/- Walks: geom.One, geom.Two. -/
namespace Go.Proofs.YtikfgddgfddbaaaGreatDoor
open Go.RowKit Go.Shelf
open Go.Lib (decDigits nDigits)
set_option linter.unusedVariables false
set_option linter.unusedSimpArgs false

/-- A draw as a value. -/
def d3 (t : Bool × Int × Int) : Value := .agg #[.bool t.1, .int .i64 t.2.1, .int .i64 t.2.2]

/-- What one series gives; two. -/
def oneT (N D : Nat) (l : List UInt8) : Bool × Int × Int := match s1 N D l 0 0 with
  | none => (false, 0, (l.length : Nat))
  | some (x, p) => (true, (x : Nat), (p : Nat))
def twoT (N D : Nat) (l : List UInt8) : Bool × Int × Int := match s1 N D l 0 0 with
  | none => (false, 0, (l.length : Nat))
  | some (x, p) => match s1 N D l p 0 with
    | none => (false, 0, (l.length : Nat))
    | some (y, q) => (true, (x : Int) - (y : Int), (q : Nat))
def oT (a b : ByteArray) : Bool × Int × Int := if gE a b = 0 then oneT (bN (cW a)) (bN (qD a)) b.data.toList else (false, 0, 0)
def wT (a b : ByteArray) : Bool × Int × Int := if gE a b = 0 then twoT (bN (cW a)) (bN (qD a)) b.data.toList else (false, 0, 0)

theorem chk_size {b : ByteArray} (h : chkE b = 0) : b.size ≤ 256 := by
  have h5 := (bit_drop h 0).2.1
  have h6 := list_size (b.extract 0 b.size)
  have h7 := (bit_drop h 0).2.2
  rw [h5, List.drop_zero, list_size] at h6
  omega

theorem g_draw1 (w : World) (a b : ByteArray) (ha : a.size ≤ 100000) (hb : b.size ≤ 100000) (hL : Lay w) :
    Calls Tryz.prog 23 #[.string a, .string b, .int .i64 1] w fun e w' => e = .returned (.tuple #[d3 (oT a b), .int .i64 (gE a b)]) ∧ Below w.heap.size w w' := by
  by_cases he : gE a b = 0
  · have hs := chk_size (gE_ok he).2
    have hND := (gPE_ok (gE_ok he).1).2
    have hl : b.data.toList.length = b.size := list_size b
    have h1 := sr_one_eq hND (l := b.data.toList) b.data.toList.length 0 [] 0 (Nat.zero_le _) (by omega)
    rw [oT, if_pos he, oneT, he]
    cases hS : s1 (bN (cW a)) (bN (qD a)) b.data.toList 0 0 with
    | none =>
      rw [hS] at h1
      refine (g_draw_none w a b 1 (by omega) (by omega) ha hb he hL h1).mono fun e w' h => ?_
      rw [h.1]
      exact ⟨by rw [hl]; rfl, h.2⟩
    | some y =>
      obtain ⟨x, p⟩ := y
      rw [hS] at h1
      have h2 := s1_le hND b.data.toList.length 0 0 x p (Nat.zero_le _) (by omega) hS
      exact g_draw_one w a b x p (by omega) (by omega) ha hb he hL h1
  · rw [oT, if_neg he]
    exact g_draw_bad w a b 1 ha hb he hL

theorem g_draw2 (w : World) (a b : ByteArray) (ha : a.size ≤ 100000) (hb : b.size ≤ 100000) (hL : Lay w) :
    Calls Tryz.prog 23 #[.string a, .string b, .int .i64 2] w fun e w' => e = .returned (.tuple #[d3 (wT a b), .int .i64 (gE a b)]) ∧ Below w.heap.size w w' := by
  by_cases he : gE a b = 0
  · have hs := chk_size (gE_ok he).2
    have hND := (gPE_ok (gE_ok he).1).2
    have hl : b.data.toList.length = b.size := list_size b
    have h1 := sr_two hND (l := b.data.toList) b.data.toList.length 0 [] 0 (Nat.zero_le _) (by omega)
    rw [wT, if_pos he, twoT, he]
    cases hS : s1 (bN (cW a)) (bN (qD a)) b.data.toList 0 0 with
    | none =>
      rw [hS] at h1
      refine (g_draw_none w a b 2 (by omega) (by omega) ha hb he hL h1).mono fun e w' h => ?_
      rw [h.1]
      exact ⟨by rw [hl]; rfl, h.2⟩
    | some y =>
      obtain ⟨x, p⟩ := y
      rw [hS] at h1
      have h2 := s1_le hND b.data.toList.length 0 0 x p (Nat.zero_le _) (by omega) hS
      have h3 := sr_one_eq hND (l := b.data.toList) b.data.toList.length p ([] ++ [x]) 0 h2.2.1 (by omega)
      dsimp only at h1 ⊢
      rw [h3] at h1
      cases hT : s1 (bN (cW a)) (bN (qD a)) b.data.toList p 0 with
      | none =>
        rw [hT] at h1
        refine (g_draw_none w a b 2 (by omega) (by omega) ha hb he hL h1).mono fun e w' h => ?_
        rw [h.1]
        exact ⟨by rw [hl]; rfl, h.2⟩
      | some z =>
        obtain ⟨y, q⟩ := z
        rw [hT] at h1
        have h4 := s1_le hND b.data.toList.length p 0 y q h2.2.1 (by omega) hT
        exact g_draw_two w a b x y q (by omega) (by omega) (by omega) ha hb he hL h1
  · rw [wT, if_neg he]
    exact g_draw_bad w a b 2 ha hb he hL

set_option maxRecDepth 100000 in
set_option maxHeartbeats 1000000 in
theorem g_One (w : World) (a b : ByteArray) (ha : a.size ≤ 100000) (hb : b.size ≤ 100000) (hL : Lay w) :
    Calls Tryz.prog 7 #[.string a, .string b] w fun e w' => e = .returned (.tuple #[d3 (oT a b), .int .i64 (gE a b)]) ∧ Below w.heap.size w w' := by
  have HC := fun V hV => hid (g_draw1 V a b ha hb hV)
  obtain ⟨t, ht⟩ : ∃ t, oT a b = t := ⟨_, rfl⟩
  obtain ⟨x, hx⟩ : ∃ x, gE a b = x := ⟨_, rfl⟩
  rw [ht, hx] at HC
  rw [ht, hx]
  obtain ⟨d, v, u⟩ := t
  simp only [d3] at HC
  have HL := hid hL
  have b0 := hid ((Below.refl w.heap.size w).alloc (Nat.le_refl _) (.cells #[.bool false, .int .i64 0, .int .i64 0] 26))
  have x0 := hid (Blk.new w #[.bool false, .int .i64 0, .int .i64 0] 26)
  clear ha hb hL hx ht
  go_enter Tryz.func7, Tryz.ntmps7
  go_wp2_with fail
  refine (HC _ (HL.out.call b0.out)).out.mono ?_; rintro e w2 ⟨rfl, hb2⟩
  have b2 := hid (bnext b0.out hb2); have x2 := hid (x0.out.call hb2)
  have r0 : w2.cell? ⟨w.heap.size, 0, none⟩ = some (.bool false) := x2.out.cell 0
  have r1 : w2.cell? ⟨w.heap.size, 1, none⟩ = some (.int .i64 0) := x2.out.cell 1
  have r2 : w2.cell? ⟨w.heap.size, 2, none⟩ = some (.int .i64 0) := x2.out.cell 2
  have f0 := x2.out.free 0
  have f1 := x2.out.free 1
  have f2 := x2.out.free 2
  clear hb2
  go_wp2_with fail
  have s3 := ((x2.out.set 0 (.bool d)).set 1 (.int .i64 v)).set 2 (.int .i64 u)
  have k0 := s3.cell 0
  have k1 := s3.cell 1
  have k2 := s3.cell 2
  simp at k0 k1 k2
  refine bodyPost_ret (v := .tuple #[.agg #[.bool d, .int .i64 v, .int .i64 u], .int .i64 x]) (by simp [results, Tryz.results7, go_sem, k0, k1, k2]) rfl ⟨rfl, ?_⟩
  exact ((b2.out.setCell (Nat.le_refl _) _).setCell (Nat.le_refl _) _).setCell (Nat.le_refl _) _

set_option maxRecDepth 100000 in
set_option maxHeartbeats 1000000 in
theorem g_Two (w : World) (a b : ByteArray) (ha : a.size ≤ 100000) (hb : b.size ≤ 100000) (hL : Lay w) :
    Calls Tryz.prog 8 #[.string a, .string b] w fun e w' => e = .returned (.tuple #[d3 (wT a b), .int .i64 (gE a b)]) ∧ Below w.heap.size w w' := by
  have HC := fun V hV => hid (g_draw2 V a b ha hb hV)
  obtain ⟨t, ht⟩ : ∃ t, wT a b = t := ⟨_, rfl⟩
  obtain ⟨x, hx⟩ : ∃ x, gE a b = x := ⟨_, rfl⟩
  rw [ht, hx] at HC
  rw [ht, hx]
  obtain ⟨d, v, u⟩ := t
  simp only [d3] at HC
  have HL := hid hL
  have b0 := hid ((Below.refl w.heap.size w).alloc (Nat.le_refl _) (.cells #[.bool false, .int .i64 0, .int .i64 0] 26))
  have x0 := hid (Blk.new w #[.bool false, .int .i64 0, .int .i64 0] 26)
  clear ha hb hL hx ht
  go_enter Tryz.func8, Tryz.ntmps8
  go_wp2_with fail
  refine (HC _ (HL.out.call b0.out)).out.mono ?_; rintro e w2 ⟨rfl, hb2⟩
  have b2 := hid (bnext b0.out hb2); have x2 := hid (x0.out.call hb2)
  have r0 : w2.cell? ⟨w.heap.size, 0, none⟩ = some (.bool false) := x2.out.cell 0
  have r1 : w2.cell? ⟨w.heap.size, 1, none⟩ = some (.int .i64 0) := x2.out.cell 1
  have r2 : w2.cell? ⟨w.heap.size, 2, none⟩ = some (.int .i64 0) := x2.out.cell 2
  have f0 := x2.out.free 0
  have f1 := x2.out.free 1
  have f2 := x2.out.free 2
  clear hb2
  go_wp2_with fail
  have s3 := ((x2.out.set 0 (.bool d)).set 1 (.int .i64 v)).set 2 (.int .i64 u)
  have k0 := s3.cell 0
  have k1 := s3.cell 1
  have k2 := s3.cell 2
  simp at k0 k1 k2
  refine bodyPost_ret (v := .tuple #[.agg #[.bool d, .int .i64 v, .int .i64 u], .int .i64 x]) (by simp [results, Tryz.results8, go_sem, k0, k1, k2]) rfl ⟨rfl, ?_⟩
  exact ((b2.out.setCell (Nat.le_refl _) _).setCell (Nat.le_refl _) _).setCell (Nat.le_refl _) _
end Go.Proofs.YtikfgddgfddbaaaGreatDoor

/- Plain words: the texts of rational numbers, as numbers. -/
namespace Go.Proofs.YtikfgddgfddbaaaGreatDoor
open Go.RowKit
open Go.Lib (decDigits nDigits)

def noSl (l : List UInt8) : Prop := ∀ b ∈ l, b ≠ 47

theorem ix_none : ∀ {l : List UInt8}, noSl l → Lib.index l [47] = -1
  | [], _ => rfl
  | b :: l, h => by
    have h1 : b ≠ 47 := h b (List.mem_cons_self ..)
    have h2 := ix_none (l := l) (fun x hx => h x (List.mem_cons_of_mem _ hx))
    have h3 : ((47 : UInt8) == b) = false := by rw [beq_eq_false_iff_ne]; exact fun e => h1 e.symm
    simp [Lib.index, List.isPrefixOf, h2, h3]

theorem ix_at : ∀ {l r : List UInt8}, noSl l → Lib.index (l ++ 47 :: r) [47] = l.length
  | [], r, _ => by simp [Lib.index, List.isPrefixOf]
  | b :: l, r, h => by
    have h1 : b ≠ 47 := h b (List.mem_cons_self ..)
    have h2 := ix_at (l := l) (r := r) (fun x hx => h x (List.mem_cons_of_mem _ hx))
    have h3 : ((47 : UInt8) == b) = false := by rw [beq_eq_false_iff_ne]; exact fun e => h1 e.symm
    have h4 : ((l.length : Int) == -1) = false := by rw [beq_eq_false_iff_ne]; omega
    simp only [List.cons_append, Lib.index, List.isPrefixOf, h3, h2, h4, Bool.false_and]
    simp

theorem cut_none {l : List UInt8} (h : noSl l) : Lib.cut l [47] = (l, [], false) := by
  unfold Lib.cut
  rw [if_neg (by rw [ix_none h]; decide)]
theorem cut_at {l r : List UInt8} (h : noSl l) : Lib.cut (l ++ 47 :: r) [47] = (l, r, true) := by
  unfold Lib.cut
  rw [if_pos (by rw [ix_at h]; omega), ix_at h]
  simp [List.drop_append]

theorem sl_cases : ∀ s : List UInt8, noSl s ∨ ∃ A B, noSl A ∧ s = A ++ 47 :: B
  | [] => .inl (fun b h => by cases h)
  | b :: l => by
    by_cases hb : b = 47
    · exact .inr ⟨[], l, fun b h => (by cases h), by rw [hb]; rfl⟩
    · rcases sl_cases l with h | ⟨A, B, hA, e⟩
      · exact .inl (fun x hx => by
          rcases List.mem_cons.1 hx with rfl | hx
          · exact hb
          · exact h x hx)
      · exact .inr ⟨b :: A, B, fun x hx => (by
          rcases List.mem_cons.1 hx with rfl | hx
          · exact hb
          · exact hA x hx), by rw [e]; rfl⟩

theorem noSl_dig {l : List UInt8} (h : allDig l) : noSl l := fun b hb e => by
  have := isDig_iff.1 (h b hb)
  rw [e] at this
  simp at this

/-- The text of a sign, a numerator and a denominator. -/
def txB (m : Bool) (n d : Nat) : ByteArray := ⟨((if m = true then [45] else []) ++ (decDigits n ++ (if d = 1 then [] else 47 :: decDigits d))).toArray⟩
def txQ (q : Rat) : ByteArray := txB (decide (q.num < 0)) q.num.natAbs q.den

theorem ba_ext {a b : ByteArray} (h : a.data.toList = b.data.toList) : a = b := by
  apply ByteArray.ext
  exact Array.toList_inj.1 h

theorem txB_list (m : Bool) (n d : Nat) : (txB m n d).data.toList = (if m = true then [45] else []) ++ (decDigits n ++ (if d = 1 then [] else 47 :: decDigits d)) := by simp [txB]

theorem tx_head (m : Bool) (n : Nat) : noSl ((if m = true then [45] else []) ++ decDigits n) := by
  intro b hb
  rcases List.mem_append.1 hb with h | h
  · cases m <;> simp at h
    rw [h]; decide
  · exact noSl_dig (allDig_dec n) b h

theorem cut_tx (m : Bool) (n d : Nat) : Lib.cut (txB m n d).data.toList [47] = ((if m = true then [45] else []) ++ decDigits n, if d = 1 then [] else decDigits d, !decide (d = 1)) := by
  rw [txB_list, ← List.append_assoc]
  by_cases h : d = 1
  · rw [if_pos h, List.append_nil, cut_none (tx_head m n), if_pos h]
    simp [h]
  · rw [if_neg h, cut_at (tx_head m n), if_neg h]
    simp [h]

theorem cW_tx (m : Bool) (n d : Nat) : (cW (txB m n d)).data.toList = (if m = true then [45] else []) ++ decDigits n := by simp [cW, cut_tx]
theorem cB_tx (m : Bool) (n d : Nat) : (cB (txB m n d)).data.toList = if d = 1 then [] else decDigits d := by simp [cB, cut_tx]
theorem cS_tx (m : Bool) (n d : Nat) : cS (txB m n d) = !decide (d = 1) := by simp [cS, cut_tx]
theorem qD_tx (m : Bool) (n d : Nat) : qD (txB m n d) = numB d := by
  unfold qD
  rw [cS_tx]
  by_cases h : d = 1
  · rw [h]; rw [if_neg (by simp)]; unfold numB; rw [dec_one]
  · rw [if_pos (by simp [h])]
    apply ba_ext
    rw [cB_tx, if_neg h, numB_list]

theorem minus_dec (n : Nat) : List.isPrefixOf [(45 : UInt8)] (decDigits n) = false := by
  cases h : decDigits n with
  | nil => rfl
  | cons b l =>
    have := isDig_iff.1 (allDig_dec n b (by rw [h]; exact List.mem_cons_self ..))
    have h3 : ((45 : UInt8) == b) = false := by
      rw [beq_eq_false_iff_ne]
      rintro rfl
      simp at this
    simp [List.isPrefixOf, h3]

theorem iM_tx (m : Bool) (n d : Nat) : iM (cW (txB m n d)) = m := by
  unfold iM Lib.hasPrefix
  rw [cW_tx]
  cases m
  · simpa using minus_dec n
  · simp [List.isPrefixOf]
theorem iD_tx (m : Bool) (n d : Nat) : iD (cW (txB m n d)) = numB n := by
  apply ba_ext
  have h := iM_tx m n d
  unfold iM at h
  unfold iD Lib.trimPrefix
  rw [h, cW_tx, numB_list]
  cases m <;> simp

theorem bN_iD_tx (m : Bool) (n d : Nat) : bN (iD (cW (txB m n d))) = n := by rw [iD_tx, bN_num]
theorem bN_qD_tx (m : Bool) (n d : Nat) : bN (qD (txB m n d)) = d := by rw [qD_tx, bN_num]

theorem numB_ne {a b : Nat} (h : a ≠ b) : numB a ≠ numB b := fun e => h (by rw [← bN_num a, e, bN_num])
theorem numB_zero : numB 0 = ⟨#[48]⟩ := by unfold numB; rw [dec_zero]
theorem numB_one : numB 1 = ⟨#[49]⟩ := by unfold numB; rw [dec_one]
theorem fB_num (n : Nat) : fB (numB n) = true := by unfold fB; rw [numB_list]; exact formB_dec n

/-- The text of a reduced fraction is valid. -/
theorem qE_tx {m : Bool} {n d : Nat} (hg : Nat.gcd n d = 1) (hd : 0 < d) (hm : m = true → n ≠ 0) (h1 : nDigits n ≤ 4000) (h2 : nDigits d ≤ 4000) : qE (txB m n d) = 0 := by
  refine qE_ok ?_ ?_ ?_
  · unfold qB iB
    rw [iD_tx, iM_tx, cS_tx, fB_num]
    have e1 : (m && decide (numB n = ⟨#[48]⟩)) = false := by
      cases m
      · rfl
      · rw [← numB_zero]; simpa using numB_ne (hm rfl)
    rw [e1]
    by_cases h : d = 1
    · simp [h]
    · have e2 : cB (txB m n d) = numB d := by
        apply ba_ext
        rw [cB_tx, if_neg h, numB_list]
      have hn : n ≠ 0 := fun e => by rw [e, Nat.gcd_zero_left] at hg; exact h hg
      rw [e2, fB_num, ← numB_zero, ← numB_one]
      have q1 := numB_ne hn
      have q2 := numB_ne (show d ≠ 0 by omega)
      have q3 := numB_ne h
      simp [q1, q2, q3]
  · unfold qL
    rw [iD_tx, qD_tx, numB_size, numB_size]
    simp
    omega
  · unfold qG
    rw [bN_iD_tx, bN_qD_tx]
    simp [hg]

/-- The number of a text. -/
def vQ (s : ByteArray) : Rat := qmk (iM (cW s)) (bN (iD (cW s))) (bN (qD s))

theorem formZ {s : ByteArray} (h : fB s = true) (h0 : s ≠ ⟨#[48]⟩) : 0 < bN s := by
  rcases Nat.eq_zero_or_pos (bN s) with e | e
  · have := numB_of h
    rw [e, numB_zero] at this
    exact absurd this h0
  · exact e

/-- The parts of a valid text. -/
theorem valid {s : ByteArray} (h : qE s = 0) : Nat.gcd (bN (iD (cW s))) (bN (qD s)) = 1 ∧ 0 < bN (qD s) ∧ (iM (cW s) = true → bN (iD (cW s)) ≠ 0) ∧ nDigits (bN (iD (cW s))) ≤ 4000 ∧ nDigits (bN (qD s)) ≤ 4000 ∧ s = txB (iM (cW s)) (bN (iD (cW s))) (bN (qD s)) := by
  obtain ⟨h1, h2, h3⟩ := qE_zero h
  have hW := iB_form (qB_whole h1)
  have hD := qB_below h1
  have eW := numB_of hW
  have eD := numB_of hD
  have hm : iM (cW s) = true → bN (iD (cW s)) ≠ 0 := by
    intro hm e
    have h4 := qB_whole h1
    unfold iB at h4
    rw [e, numB_zero] at eW
    rw [hm, eW] at h4
    simp at h4
  unfold qL at h2
  simp only [Bool.or_eq_false_iff, decide_eq_false_iff_not] at h2
  have l1 : nDigits (bN (iD (cW s))) ≤ 4000 := by
    have := h2.1
    rw [eW, numB_size] at this
    rw [eW, bN_num] at *
    omega
  have l2 : nDigits (bN (qD s)) ≤ 4000 := by
    have := h2.2
    rw [eD, numB_size] at this
    rw [eD, bN_num] at *
    omega
  have es : (cW s).data.toList = (if iM (cW s) = true then [45] else []) ++ decDigits (bN (iD (cW s))) := by
    have e : (iD (cW s)).data.toList = decDigits (bN (iD (cW s))) := by rw [eW, bN_num, numB_list]
    rw [← e]
    unfold iD Lib.trimPrefix
    cases hm2 : Lib.hasPrefix (cW s).data.toList [45]
    · have : iM (cW s) = false := hm2
      rw [this]
      simp
    · have : iM (cW s) = true := hm2
      rw [this]
      have hp : List.isPrefixOf [45] (cW s).data.toList = true := hm2
      obtain ⟨t, ht⟩ := List.isPrefixOf_iff_prefix.1 hp
      rw [← ht]
      simp
  refine ⟨?_, ?_, hm, l1, l2, ?_⟩
  · unfold qG at h3
    cases hS : cS s
    · have : qD s = numB 1 := by unfold qD; rw [hS, numB_one]; rfl
      rw [this, bN_num, Nat.gcd_one_right]
    · rw [hS] at h3
      simpa using h3
  · cases hS : cS s
    · have : qD s = numB 1 := by unfold qD; rw [hS, numB_one]; rfl
      rw [this, bN_num]; omega
    · unfold qB at h1
      rw [hS] at h1
      simp only [Bool.and_eq_true, Bool.or_eq_true, Bool.not_true, Bool.false_eq_true, false_or, decide_eq_true_eq] at h1
      have : qD s = cB s := by unfold qD; rw [if_pos hS]
      rw [this]
      exact formZ h1.2.1.1.2 h1.2.1.2
  · apply ba_ext
    rw [txB_list]
    rcases sl_cases s.data.toList with h4 | ⟨A, B, hA, e⟩
    · have hc := cut_none h4
      have hS : cS s = false := by unfold cS; rw [hc]
      have hq : bN (qD s) = 1 := by
        have : qD s = numB 1 := by unfold qD; rw [hS, numB_one]; rfl
        rw [this, bN_num]
      rw [hq, if_pos rfl, List.append_nil]
      have e1 : (cW s).data.toList = s.data.toList := by unfold cW; rw [hc]
      rw [← es, e1]
    · have hc := cut_at (r := B) hA
      rw [← e] at hc
      have hS : cS s = true := by unfold cS; rw [hc]
      have hB : qD s = cB s := by unfold qD; rw [if_pos hS]
      have e1 : (cW s).data.toList = A := by unfold cW; rw [hc]
      have e2 : (cB s).data.toList = B := by unfold cB; rw [hc]
      have e3 : B = decDigits (bN (qD s)) := by rw [← e2, ← hB, eD, bN_num, numB_list]
      have hne : bN (qD s) ≠ 1 := by
        intro hb
        unfold qB at h1
        rw [hS] at h1
        simp only [Bool.and_eq_true, Bool.or_eq_true, Bool.not_true, Bool.false_eq_true, false_or, decide_eq_true_eq] at h1
        refine h1.2.2 ?_
        rw [← hB, eD, hb, numB_one]
      rw [if_neg hne, ← e3, e, ← List.append_assoc, ← es, e1]

theorem qmk_ok {m : Bool} {n d : Nat} (hg : Nat.gcd n d = 1) (hd : 0 < d) (hm : m = true → n ≠ 0) : decide ((qmk m n d).num < 0) = m ∧ (qmk m n d).num.natAbs = n ∧ (qmk m n d).den = d := by
  have e1 := qmk_num (m := m) (n := n) hd
  have e2 := qmk_den (m := m) (n := n) hd
  rw [hg, Nat.div_one] at e1 e2
  refine ⟨?_, by rw [e1, sgn_natAbs], e2⟩
  rw [e1]
  rcases Nat.eq_zero_or_pos n with rfl | hn
  · cases m
    · rw [sgn_zero]; rfl
    · exact absurd rfl (hm rfl)
  · exact sgn_neg hn

/-- A valid text is the text of its number. -/
theorem vQ_ok {s : ByteArray} (h : qE s = 0) : decide ((vQ s).num < 0) = iM (cW s) ∧ (vQ s).num.natAbs = bN (iD (cW s)) ∧ (vQ s).den = bN (qD s) := by
  obtain ⟨h1, h2, h3, -⟩ := valid h
  exact qmk_ok h1 h2 h3
theorem vQ_text {s : ByteArray} (h : qE s = 0) : s = txQ (vQ s) := by
  obtain ⟨e1, e2, e3⟩ := vQ_ok h
  unfold txQ
  rw [e1, e2, e3]
  exact (valid h).2.2.2.2.2

/-- Whether a number's text would be too long. -/
def ovQ (q : Rat) : Prop := 4000 < nDigits q.num.natAbs ∨ 4000 < nDigits q.den
instance (q : Rat) : Decidable (ovQ q) := by unfold ovQ; infer_instance

theorem vQ_fits {s : ByteArray} (h : qE s = 0) : ¬ ovQ (vQ s) := by
  obtain ⟨e1, e2, e3⟩ := vQ_ok h
  obtain ⟨-, -, -, l1, l2, -⟩ := valid h
  unfold ovQ
  rw [e2, e3]
  omega

theorem gcd_q (q : Rat) : Nat.gcd q.num.natAbs q.den = 1 := q.reduced
theorem neg_q (q : Rat) : decide (q.num < 0) = true → q.num.natAbs ≠ 0 := by
  intro h
  have := of_decide_eq_true h
  omega
theorem qE_txQ {q : Rat} (h : ¬ ovQ q) : qE (txQ q) = 0 := by
  unfold ovQ at h
  exact qE_tx (gcd_q q) q.den_pos (neg_q q) (by omega) (by omega)
theorem vQ_txQ (q : Rat) : vQ (txQ q) = q := by
  unfold vQ txQ
  rw [iM_tx, bN_iD_tx, bN_qD_tx, qmk_self]

/-- The text and the error of a result. -/
def outB (q : Rat) : ByteArray := if ovQ q then ⟨#[]⟩ else txQ q
def outE (q : Rat) : Int := if ovQ q then 5 else 0

/-- An operation on one text, on two. -/
def op1B (f : Rat → Rat) (s : ByteArray) : ByteArray := if qE s = 0 then outB (f (vQ s)) else ⟨#[]⟩
def op1E (f : Rat → Rat) (s : ByteArray) : Int := if qE s = 0 then outE (f (vQ s)) else qE s
def op2B (f : Rat → Rat → Rat) (s t : ByteArray) : ByteArray := if qE s = 0 ∧ qE t = 0 then outB (f (vQ s) (vQ t)) else ⟨#[]⟩
def op2E (f : Rat → Rat → Rat) (s t : ByteArray) : Int := if qE s = 0 then (if qE t = 0 then outE (f (vQ s) (vQ t)) else qE t) else qE s
end Go.Proofs.YtikfgddgfddbaaaGreatDoor

/- Plain words: how many bit strings decide a coin, a series. No program in sight. -/
namespace Go.Proofs.YtikfgddgfddbaaaGreatDoor
open Go.RowKit

/-- Behind j bits: twice the rest, and whether the coin is still open. -/
def sdx (N D : Nat) : Nat → Nat × Bool
  | 0 => (N, decide (N ≠ 0))
  | j + 1 => if (sdx N D j).2 = true then (if D ≤ 2 * (sdx N D j).1 then (2 * (sdx N D j).1 - D, decide (2 * (sdx N D j).1 ≠ D)) else (2 * (sdx N D j).1, true)) else sdx N D j
/-- Whether exactly j bits may come up 1, may come up 0. -/
def oneJ (N D : Nat) : Nat → Bool
  | 0 => false
  | j + 1 => (sdx N D j).2 && decide (D ≤ 2 * (sdx N D j).1)
def zeroJ (N D : Nat) : Nat → Bool
  | 0 => decide (N = 0)
  | j + 1 => (sdx N D j).2 && decide (2 * (sdx N D j).1 ≤ D)

theorem sdx_shut {N D j : Nat} (h : (sdx N D j).2 = false) : ∀ i, j ≤ i → (sdx N D i).2 = false
  | 0, hi => by rw [show j = 0 by omega] at h; exact h
  | i + 1, hi => by
    rcases Nat.lt_or_ge i j with h1 | h1
    · rw [← show j = i + 1 by omega]; exact h
    · have := sdx_shut h i h1
      rw [sdx, if_neg (by simp [this])]; exact this
theorem oneJ_shut {N D j : Nat} (h : (sdx N D j).2 = false) (i : Nat) (hi : j < i) : oneJ N D i = false := by
  cases i with
  | zero => rfl
  | succ i => rw [oneJ, sdx_shut h i (by omega)]; rfl
theorem zeroJ_shut {N D j : Nat} (h : (sdx N D j).2 = false) (i : Nat) (hi : j < i) : zeroJ N D i = false := by
  cases i with
  | zero => omega
  | succ i => rw [zeroJ, sdx_shut h i (by omega)]; rfl
theorem sdx_lt {N D : Nat} (h : N < D) : ∀ j, (sdx N D j).1 < D
  | 0 => h
  | j + 1 => by
    have := sdx_lt h j
    rw [sdx]
    split
    · split
      · dsimp only; omega
      · dsimp only; omega
    · exact this

/-- A row of bools, of which those below j are laid. -/
def tabL (f : Nat → Bool) (n j : Nat) : List Value := (List.range (n + 1)).map fun i => .bool (decide (i < j) && f i)
@[simp] theorem tabL_length (f : Nat → Bool) (n j : Nat) : (tabL f n j).length = n + 1 := by simp [tabL]
theorem tabL_get {f : Nat → Bool} {n j i : Nat} (h : i ≤ n) : (tabL f n j)[i]? = some (.bool (decide (i < j) && f i)) := by simp [tabL, List.getElem?_range (show i < n + 1 by omega)]
theorem tabL_set {f : Nat → Bool} {n j : Nat} (h : j ≤ n) : (tabL f n j).set j (.bool (f j)) = tabL f n (j + 1) := by
  apply List.ext_getElem?
  intro i
  rw [List.getElem?_set]
  by_cases hi : j = i
  · subst hi
    rw [if_pos rfl, if_pos (by simp; omega), tabL_get h]
    simp
  · rw [if_neg hi]
    by_cases h2 : i ≤ n
    · rw [tabL_get h2, tabL_get h2]
      congr 2
      by_cases h3 : i < j
      · simp [h3, show i < j + 1 by omega]
      · simp [h3, show ¬ i < j + 1 by omega]
    · rw [List.getElem?_eq_none (by simp; omega), List.getElem?_eq_none (by simp; omega)]
theorem tabL_shut {f : Nat → Bool} {n j : Nat} (h : ∀ i, j ≤ i → f i = false) : ∀ k, j ≤ k → tabL f n k = tabL f n j := by
  intro k hk
  apply List.ext_getElem?
  intro i
  by_cases h2 : i ≤ n
  · rw [tabL_get h2, tabL_get h2]
    by_cases h3 : i < j
    · simp [h3, show i < k by omega]
    · simp [h i (by omega)]
  · rw [List.getElem?_eq_none (by simp; omega), List.getElem?_eq_none (by simp; omega)]
theorem tabL_skip {f : Nat → Bool} {n j : Nat} (h : f j = false) : tabL f n (j + 1) = tabL f n j := by
  apply List.ext_getElem?
  intro i
  by_cases h2 : i ≤ n
  · rw [tabL_get h2, tabL_get h2]
    by_cases h3 : i < j
    · simp [h3, show i < j + 1 by omega]
    · by_cases h4 : i = j
      · subst h4; simp [h]
      · simp [h3, show ¬ i < j + 1 by omega]
  · rw [List.getElem?_eq_none (by simp; omega), List.getElem?_eq_none (by simp; omega)]
theorem tabL_zero (f : Nat → Bool) (n : Nat) : tabL f n 0 = List.replicate (n + 1) (.bool false) := by
  apply List.ext_getElem?
  intro i
  by_cases h2 : i ≤ n
  · rw [tabL_get h2, List.getElem?_replicate, if_pos (by omega)]; simp
  · rw [List.getElem?_eq_none (by simp; omega), List.getElem?_eq_none (by simp; omega)]
/-- A row of bools, laid whole. -/
def allB (f : Nat → Bool) (n : Nat) : List Value := (List.range (n + 1)).map fun i => .bool (f i)
theorem allB_get {f : Nat → Bool} {n i : Nat} (h : i ≤ n) : (allB f n)[i]? = some (.bool (f i)) := by simp [allB, List.getElem?_range (show i < n + 1 by omega)]
theorem tabL_full (f : Nat → Bool) (n : Nat) {j : Nat} (h : n < j) : tabL f n j = allB f n := by
  unfold allB
  apply List.ext_getElem?
  intro i
  by_cases h2 : i ≤ n
  · rw [tabL_get h2]
    simp [List.getElem?_range (show i < n + 1 by omega), show i < j by omega]
  · rw [List.getElem?_eq_none (by simp; omega), List.getElem?_eq_none (by simp; omega)]
end Go.Proofs.YtikfgddgfddbaaaGreatDoor

/-
  DERIVED: THE SHELF's CONTRACTS AT THIS DUMP, IN PLAIN WORDS (tools/lay-plain.mjs out of 'YtikfgddgfddbaaaGreatDoorSh3.lean', which tools/lay-shelf.mjs wrote): THE SAME DECLARATIONS UNDER THE SAME NAMES: 'import', 'namespace', 'open', 'def', 'theorem' AND NOTHING ELSE: no command of the shelf's: FOR A HAND-IN. Each laying: the table of numbers ('.._ren') and one theorem, a field a fact of the dump's own or the kernel's comparison; each contract: ONE APPLICATION.
-/
namespace Go.Proofs
open Go.Shelf
def Tryz.lays212_ren : Go.Shelf.Ren := ⟨fun | 212 => 123 | 263 => 167 | 264 => 168 | n => n, fun | 46 => 127 | 51 => 163 | 146 => 164 | 53 => 112 | 148 => 166 | n => n, fun | n => n⟩
theorem Tryz.lays212 : Go.Proofs.Lays.n212 Tryz.prog Tryz.lays212_ren := {
  mixed := by kernel_rfl
  f212 := Tryz.func123.trans (congrArg some (by kernel_rfl))
  f263 := Tryz.func167.trans (congrArg some (by kernel_rfl))
  f264 := Tryz.func168.trans (congrArg some (by kernel_rfl))
  t46 := Tryz.underlying127
  a46 := Tryz.isAgg127
  z46 := Tryz.sizeOf127
  v46 := Tryz.zeroValue127
  t51 := Tryz.underlying163
  a51 := Tryz.isAgg163
  z51 := Tryz.sizeOf163
  v51 := Tryz.zeroValue163
  t53 := Tryz.underlying112
  a53 := Tryz.isAgg112
  z53 := Tryz.sizeOf112
  v53 := Tryz.zeroValue112
  t146 := Tryz.underlying164
  a146 := Tryz.isAgg164
  z146 := Tryz.sizeOf164
  v146 := Tryz.zeroValue164
  t148 := Tryz.underlying166
  a148 := Tryz.isAgg166
  z148 := Tryz.sizeOf166
  v148 := Tryz.zeroValue166 }
open Go.RowKit Go.Lib in
theorem Tryz.bits_Mul (x y : Nat) (hx : x < 18446744073709551616) (hy : y < 18446744073709551616) (w : World) :
    Calls Tryz.prog 123 #[.int .u64 x, .int .u64 y] w fun e w' => e = .returned (.tuple #[.int .u64 ((x * y / 18446744073709551616 : Nat) : Int), .int .u64 ((x * y % 18446744073709551616 : Nat) : Int)]) ∧ w' = w := Any.bits_Mul Tryz.lays212 x y hx hy w
end Go.Proofs
