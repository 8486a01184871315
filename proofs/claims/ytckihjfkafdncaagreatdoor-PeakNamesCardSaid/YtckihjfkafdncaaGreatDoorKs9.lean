/- Texts that the proof rests on, merged: Fn1, Fd11, Fn2, Df0, Fd14, Fd15, FrC, Rt4i, RtC, ChLt, Rt8, Fd16, PkP, Lits, Pv0, Prz0. -/
import Derived.Test.YtckihjfkafdncaaGreatDoorKs8
import Derived.Maps.OwnSet
import Derived.Deep.DeepCutAuto
import Derived.Lib.SliceRun
namespace Go.Proofs.YtckihjfkafdncaaGreatDoor
open Go.RowKit Go.Shelf Go.Maps
open Go.Lib (decDigits nDigits)
set_option linter.unusedVariables false
set_option linter.unusedSimpArgs false
def sumD {H : Type} (g o n c : Nat) : DataW H := .agg [.lit (.int .i64 g), .lit (.int .i64 o), .lit (.int .i64 n), .lit (.int .i64 c)]
def sumE {H : Type} (v : Value) : Option (DataW H × List MemPlace) := match v with
  | .slice none 0 0 => some (.lit (.bool false), [])
  | .slice (some ⟨g, o, none⟩) n c => some (sumD g o n c, [])
  | _ => none
theorem sumE_nil {H : Type} {v : Value} {ps : List MemPlace} (h : sumE (H := H) v = some (.lit (.bool false), ps)) : v = .slice none 0 0 := by
  unfold sumE at h
  split at h
  · rfl
  · simp [sumD] at h
  · cases h
theorem sumE_row {H : Type} {v : Value} {g o n c : Nat} {ps : List MemPlace} (h : sumE (H := H) v = some (sumD g o n c, ps)) : v = .slice (some ⟨g, o, none⟩) n c := by
  unfold sumE at h
  split at h
  · simp [sumD] at h
  · simp only [sumD, Option.some.injEq, Prod.mk.injEq, DataW.agg.injEq, List.cons.injEq, DataW.lit.injEq, Lit.int.injEq, true_and, and_true, Int.ofNat_inj, Int.natCast_inj] at h
    obtain ⟨⟨rfl, rfl, rfl, rfl⟩, -⟩ := h
    rfl
  · cases h
structure NoiS (H : Type) (w : World) (bx bm bp : Nat) (g : Int → Nat) (n : Nat) : Prop where
  x : Blk w bx #[.slice (some ⟨bp, 0, none⟩) (n + 1) (n + 1), .map (some bm)] 63
  p : Blk w bp (strs (prT g n)).toArray 22
  m : w.ownsMap Tryz.prog 3 (sumE (H := H)) bm 0 (.map []) ∨ ∃ gs cs, w.ownsMap Tryz.prog 3 (sumE (H := H)) bm 1 ((DataW.map []).put (.int .i64 ((n + 1 : Nat) : Int)) (sumD gs 0 (n + 2) cs)) ∧ w.ownsRow 0 22 1 (.slice (some ⟨gs, 0, none⟩) (n + 2) cs) (n + 2) (strs (cmL g n (n + 1))) ∧ gs ≠ bm
theorem NoiS.call {H : Type} {w w' : World} {bx bm bp : Nat} {g : Int → Nat} {n : Nat} (h : NoiS H w bx bm bp g n) (hb : Below w.heap.size w w') : NoiS H w' bx bm bp g n := by
  refine ⟨h.x.call hb, h.p.call hb, ?_⟩
  rcases h.m with h1 | ⟨gs, cs, h1, h2, h3⟩
  · exact .inl (h1.kept (below_grown hb none) (by simp))
  · exact .inr ⟨gs, cs, h1.kept (below_grown hb none) (by simp), owns_call h2 hb, h3⟩
theorem NoiS.grown {H : Type} {w w' : World} {bx bm bp : Nat} {g : Int → Nat} {n : Nat} {row : Option Nat} (h : NoiS H w bx bm bp g n) (hg : w.grownBy w' row) (hrow : ∀ r, row = some r → ∃ cur, w.heap[r]? = some (.cells cur 39 (0, 0))) : NoiS H w' bx bm bp g n := by
  have key : ∀ (b : Nat) (cs : Array Value) (t : TypeId), Blk w b cs t → t ≠ 39 → row ≠ some b := fun b cs t hb ht e => by
    obtain ⟨cur, h1⟩ := hrow b e
    have h2 := (show w.heap[b]? = _ from hb).symm.trans h1
    simp only [Option.some.injEq, Obj.cells.injEq] at h2
    exact ht h2.2.1
  have kmap : ∀ {m : Nat} {D : DataW H}, w.ownsMap Tryz.prog 3 (sumE (H := H)) bm m D → some bm ≠ row := fun hm e => by
    obtain ⟨cur, h1⟩ := hrow bm e.symm
    obtain ⟨es, ck, h2, -⟩ := hm
    rw [h2] at h1; cases h1
  refine ⟨h.x.grown hg (key _ _ _ h.x (by decide)), h.p.grown hg (key _ _ _ h.p (by decide)), ?_⟩
  rcases h.m with h1 | ⟨gs, cs, h1, h2, h3⟩
  · exact .inl (h1.kept hg (kmap h1))
  · refine .inr ⟨gs, cs, h1.kept hg (kmap h1), h2.kept hg (.inr fun e => ?_), h3⟩
    simp only [Value.ownBlock] at e
    obtain ⟨cur, h4⟩ := hrow gs e.symm
    rcases h2.2 with ⟨e1, _⟩ | ⟨g', cap', cur', e1, -, hgb, -⟩
    · simp at e1
    · simp at e1
      obtain ⟨rfl, rfl⟩ := e1
      rw [hgb] at h4
      simp at h4
theorem glR_ok {a : ByteArray} {n : Nat} (he : gPE a = 0) (hn : n ≤ 32) (two : Bool) : glE a (n : Nat) 32 = 0 ∧ glR a (n : Nat) two = sortM (glP (gV (bN (cW a)) (bN (qD a)) two n) (2 ^ n) n (gL (bN (cW a)) (bN (qD a)) two n)) := by
  have e1 : glE a (n : Nat) 32 = 0 := by unfold glE; rw [if_neg (by rw [he]; simp), if_neg (by omega)]
  exact ⟨e1, by unfold glR; rw [if_pos e1, Int.toNat_natCast]⟩
theorem gL_le2 {N D : Nat} (h : N < D) (two : Bool) (n : Nat) : gL N D two n ≤ 2 ^ n := by
  have := gV_all h two n
  omega
theorem glP_nz {g : Int → Nat} {n r : Nat} (hn : n ≤ 1000) (hg : ∀ v, g v ≤ 2 ^ n) (hr : r ≤ 2 ^ n) (p : ByteArray × ByteArray) (hp : p ∈ sortM (glP g (2 ^ n) n r)) : p.2 ≠ ⟨#[48]⟩ := by
  rw [sortM_mem, glP_mem] at hp
  rcases hp with ⟨v, -, -, h3, rfl⟩ | ⟨h3, rfl⟩
  · exact fun e => h3 ((dy_eq_zero (hg v) hn).1 e)
  · exact fun e => h3 ((dy_eq_zero hr hn).1 e)
theorem cell_of_heap {w w' : World} {b i : Nat} (h : w'.heap[b]? = w.heap[b]?) : w'.cell? ⟨b, i, none⟩ = w.cell? ⟨b, i, none⟩ := by
  unfold World.cell?
  rw [h]
set_option maxRecDepth 100000 in
set_option maxHeartbeats 4000000 in
theorem fd_newNoise {H : Type} (w : World) (a : ByteArray) (n : Nat) (ha : a.size ≤ 100000) (he : gPE a = 0) (hn : n ≤ 32) (hL : LayB w) :
    Calls Tryz.prog 29 #[.string a, .int .i64 (n : Nat)] w fun e w' => (∃ bx bm bp, e = .returned (.pointer (some ⟨bx, 0, none⟩)) ∧ w.heap.size ≤ bm ∧ NoiS H w' bx bm bp (gV (bN (cW a)) (bN (qD a)) false n) n) ∧ Below w.heap.size w w' := by
  obtain ⟨e1, e2⟩ := glR_ok (n := n) he hn false
  have hg : ∀ v : Int, v < 0 → gV (bN (cW a)) (bN (qD a)) false n v = 0 := fun v hv => gV_one_neg n hv
  have PO := fun V hV => hid (g_OneLaw V a (n : Nat) ha hV)
  rw [e1, e2] at PO
  have hrle := gL_le2 (gPE_ok he).2 false n
  have hgle := fun v => gV_le (gPE_ok he).2 false n v
  obtain ⟨r, hr⟩ : ∃ r, gL (bN (cW a)) (bN (qD a)) false n = r := ⟨_, rfl⟩
  rw [hr] at PO hrle
  obtain ⟨g, hgg⟩ : ∃ g, gV (bN (cW a)) (bN (qD a)) false n = g := ⟨_, rfl⟩
  rw [hgg] at PO hg hgle ⊢
  have HNZ : Hid (∀ p ∈ sortM (glP g (2 ^ n) n r), p.2 ≠ ⟨#[48]⟩) := fun p hp => glP_nz (by omega) hgle hrle p hp
  have HMS := hid (fun p hp => nz_mass (g := g) (n := n) (r := r) hg (p := p) hp)
  have HALL := hid (nzT_all (g := g) (n := n) (r := r) hg)
  obtain ⟨L, hLL⟩ : ∃ L, sortM (glP g (2 ^ n) n r) = L := ⟨_, rfl⟩
  rw [hLL] at PO HMS HALL HNZ
  have HT1 := hid (fun v (hv : v ≤ n) ks => nzT_num g (n := n) (v := v) hv ks)
  have HT2 := hid (fun ks => nzT_late g n ks)
  have HT0 := hid (nzT_nil g n)
  have HLY := hid hL; have HN := hid hn
  have PR := fun V g0 hc => hid (s_Repeat V g0 (n + 1) ⟨#[48]⟩ (by omega) (by omega) hc)
  have PA := fun V i (h : i ≤ 1000000) => hid (b_AtoiN V i h)
  have PL := fun V h => hid (b_AtoiL V h)
  have wn : IntKind.i64.wrap ((n : Int) + 1) = (n : Int) + 1 := by rw [IntWalk.i64_in _ ⟨by omega, by omega⟩]
  have hmm := @run_makeMap Tryz.prog
  have c0 : (w.alloc (.cells #[.string ⟨#[48]⟩] 22)).cell? ⟨w.heap.size, 0, none⟩ = some (.string ⟨#[48]⟩) := (Blk.new w #[.string ⟨#[48]⟩] 22).cell 0
  clear e1 e2 hg hr hgg hLL hL ha he hn hrle hgle
  go_enter Tryz.func29, Tryz.ntmps29
  go_wp2_with fail
  refine (PR _ _ c0).out.mono ?_; rintro e w1 ⟨rfl, hbk, hb1⟩
  have y1 := hid (((Below.refl w.heap.size w).alloc (Nat.le_refl _) (.cells #[.string ⟨#[48]⟩] 22)).trans (hb1.mono (by simp)))
  have esz : (w.alloc (.cells #[.string ⟨#[48]⟩] 22)).heap.size = w.heap.size + 1 := by simp
  rw [esz] at hbk ⊢
  obtain ⟨bp, hbp⟩ : ∃ bp, w.heap.size + 1 = bp := ⟨_, rfl⟩
  rw [hbp] at hbk ⊢
  have HBP : Hid (w.heap.size ≤ bp ∧ bp < w1.heap.size) := ⟨by omega, hbk.lt⟩
  have P1 : Hid (Blk w1 bp (strs (nzT g n (ksL L 0))).toArray 22) := by
    show Blk _ _ _ _
    rw [ksL_zero, HT0.out]; exact hbk
  clear hb1 hbk hbp c0 PR
  go_wp2_with fail
  have X2 := hid (Blk.made (w1.alloc (.map #[] 0)) #[.slice (some ⟨bp, 0, none⟩) (n + 1) (n + 1), .map (some w1.heap.size)] 63 (n := w1.heap.size + 1) (by simp))
  have M2 : Hid (((w1.alloc (.map #[] 0)).alloc (.cells #[.slice (some ⟨bp, 0, none⟩) (n + 1) (n + 1), .map (some w1.heap.size)] 63)).ownsMap Tryz.prog 3 (sumE (H := H)) w1.heap.size 0 (.map [])) := (World.ownsMap_made w1 Tryz.prog 3 sumE).alloc _
  have P2 := hid ((P1.out.alloc (.map #[] 0)).alloc (.cells #[.slice (some ⟨bp, 0, none⟩) (n + 1) (n + 1), .map (some w1.heap.size)] 63))
  have y2 := hid ((y1.out.alloc y1.out.size (.map #[] 0)).alloc (y1.out.alloc y1.out.size _).size (.cells #[.slice (some ⟨bp, 0, none⟩) (n + 1) (n + 1), .map (some w1.heap.size)] 63))
  obtain ⟨w2, hw2⟩ : ∃ w2, (w1.alloc (.map #[] 0)).alloc (.cells #[.slice (some ⟨bp, 0, none⟩) (n + 1) (n + 1), .map (some w1.heap.size)] 63) = w2 := ⟨_, rfl⟩
  have HBM : Hid (w.heap.size ≤ w1.heap.size) := y1.out.size
  have hne : Hid (bp ≠ w1.heap.size ∧ bp ≠ w1.heap.size + 1) := by have := HBP.out; exact ⟨by omega, by omega⟩
  obtain ⟨bm, hbm⟩ : ∃ bm, w1.heap.size = bm := ⟨_, rfl⟩
  rw [hw2] at X2 M2 P2 y2 ⊢
  rw [hbm] at X2 M2 HBM hne ⊢
  clear hw2 hbm P1 y1
  refine (PO _ (HLY.out.call y2.out).l).out.mono ?_; rintro e w3 ⟨⟨v, rfl, hv⟩, hb3⟩
  have X3 := hid (X2.out.call hb3)
  have M3 := hid (M2.out.kept (below_grown hb3 none) (by simp))
  have P3 := hid (P2.out.call hb3)
  have y3 := hid (bnext y2.out hb3)
  have HV := hid hv
  obtain ⟨a1, c1, rfl, k1, k2, k3⟩ := hv.ex
  have K3 := hid k3
  clear hb3 hv k3 X2 M2 P2 y2 PO
  obtain ⟨N, hN⟩ : ∃ N, L.length = N := ⟨_, rfl⟩
  rw [hN] at k1 HV ⊢
  have HNL := hid hN
  clear hN
  go_wp2_with fail
  go_loopw [9, 10, 11, 27] (fun s9 s10 s11 s27 wr => ∃ j : Nat, s27 = .int .i64 (j : Nat) ∧ j ≤ N ∧ Hid (Blk wr bp (strs (nzT g n (ksL L j))).toArray 22) ∧ Hid (Blk wr (bm + 1) #[.slice (some ⟨bp, 0, none⟩) (n + 1) (n + 1), .map (some bm)] 63) ∧ Hid (wr.ownsMap Tryz.prog 3 (sumE (H := H)) bm 0 (.map [])) ∧ Hid (w3.heap.size ≤ wr.heap.size) ∧ Hid (Below w.heap.size w wr) ∧ Hid (∀ k < w3.heap.size, k ≠ bp → wr.heap[k]? = w3.heap[k]?)) (fun s9 s10 s11 s27 wr => N - (intOf s27).toNat)
  case atStart => exact ⟨0, rfl, Nat.zero_le _, P3, X3, M3, hid (Nat.le_refl _), y3, fun k hk _ => rfl⟩
  case round =>
    obtain ⟨j, rfl, hj, hP, hX, hM, hsz3, hB, hK⟩ := hrel
    by_cases hlt : j < N
    · obtain ⟨p, hp⟩ : ∃ p, L[j]? = some p := ⟨_, List.getElem?_eq_getElem (by rw [HNL.out]; exact hlt)⟩
      obtain ⟨g9, o9, rfl, hg9, m1, m2⟩ := K3.out j p hp
      have hcase := HMS.out p (List.mem_of_getElem? hp)
      have hks := hid (ksL_succ hp)
      obtain ⟨pk, pv⟩ := p
      dsimp only at m1 m2 hks hcase
      rw [Nat.mul_comm 2] at m1 m2
      have hne9 : g9 ≠ bp := fun e => by
        subst e
        have h1 := P3.out.cell (o9 + j * 2 + 1)
        rw [m2] at h1
        have h2 := h1.symm
        rw [ksL_zero, HT0.out, List.getElem?_toArray] at h2
        have h3 := List.mem_of_getElem? h2
        simp only [strs, List.map_replicate] at h3
        have h4 := List.eq_of_mem_replicate h3
        injection h4 with h4
        exact HNZ.out _ (List.mem_of_getElem? hp) h4
      have r1 := (cell_of_heap (hK.out g9 hg9 hne9)).trans m1
      have r2 := (cell_of_heap (hK.out g9 hg9 hne9)).trans m2
      have b1 : (0 : Int) ≤ (j : Int) := by omega
      have b2 : (j : Int) < (N : Int) := by omega
      have wj : IntKind.i64.wrap ((j : Int) + 1) = ((j + 1 : Nat) : Int) := by have := k1; rw [IntWalk.i64_in _ ⟨by omega, by omega⟩]; omega
      have HP := hid hp
      clear m1 m2 hg9 hne9 hp
      go_wp2_with fail
      have X1 := hid (Blk.new wr #[.string pk, .string pv] 39)
      have A1 := hid ((Below.refl wr.heap.size wr).alloc (Nat.le_refl _) (.cells #[.string pk, .string pv] 39))
      rcases hcase with ⟨v, hv, e⟩ | e
      · simp only [Prod.mk.injEq] at e
        obtain ⟨e1, e2⟩ := e
        have PAv := fun V => PA V v (by have := HN.out; omega)
        have hst := hid (HT1.out v hv (ksL L j))
        rw [← e1] at PAv
        rw [← e1, ← e2] at hst
        have HVN := hid hv
        clear r1 r2 e1 e2
        refine (PAv _).out.mono ?_; rintro e w4 ⟨rfl, hb4⟩
        have hb5 := hid (bnext A1.out hb4)
        have X4 := hid (X1.out.call hb4)
        have P4 := hid (hP.out.call hb5.out)
        have Q4 := hid (hX.out.call hb5.out)
        have M4 := hid (hM.out.kept (below_grown hb5.out none) (by simp))
        clear hb4
        have z1 := X4.out.cell 1
        have z2 := Q4.out.cell 0
        have z3 : w4.cell? ⟨bp, v, none⟩ = some (.string ((nzT g n (ksL L j)).getD v ⟨#[]⟩)) := by
          rw [P4.out.cell, List.getElem?_toArray]
          refine strs_get ?_
          rw [List.getD_eq_getElem?_getD, List.getElem?_eq_getElem (by rw [nzT_length]; omega)]; rfl
        have z4 := P4.out.free v
        have b3 : (0 : Int) ≤ (v : Int) := by omega
        have b4 : (v : Int) < (n : Int) + 1 := by omega
        simp at z1 z2
        have hlt9 : bp < wr.heap.size := by have := HBP.out.2; have := hP.out.lt; omega
        have f1 : (bp = bm + 1) = False := eq_false hne.out.2
        have f2 : (bm + 1 = bp) = False := eq_false (fun e => hne.out.2 e.symm)
        have f3 : (bp = wr.heap.size) = False := eq_false (by omega)
        have f4 : (wr.heap.size = bp) = False := eq_false (by omega)
        have HB5 := hid (hB.out.trans (hb5.out.mono hB.out.size))
        have HLT9 := hid hlt9
        clear hlt9
        go_wp2_with fail
        go_region
        go_wp2_with fail
        go_roundw
        case rel =>
          refine ⟨j + 1, by go_num, by omega, ?_, hid ((Q4.out.other (fun e => hne.out.2 (by simpa using e)) _).call (Below.refl _ _).drew), hid (((M4.out.setCell (a := ⟨bp, v, none⟩) (fun e => hne.out.1 e.symm) _)).drew), hid (by have := hb5.out.size; have := hsz3.out; simp; omega), hid ((HB5.out.setCell (p := ⟨bp, v, none⟩) HBP.out.1 _).drew), fun k hk hne2 => ?_⟩
          · have h := ((P4.out.set v (.string pv)).call (Below.refl _ _).drew)
            rw [List.setIfInBounds_toArray] at h
            have e : strs (nzT g n (ksL L (j + 1))) = (strs (nzT g n (ksL L j))).set v (.string pv) := by
              rw [hks.out, hst.out]
              unfold strs
              rw [List.map_set]
            show Blk _ _ _ _
            rw [e]
            exact h
          · have h1 : ((w4.setCell ⟨bp, v, none⟩ (.string pv)).drew).heap[k]? = w4.heap[k]? := Below.heap_setCell _ _ _ _ (by simpa using hne2)
            exact h1.trans ((hb5.out.block k (Nat.lt_of_lt_of_le hk hsz3.out)).trans (hK.out k hk hne2))
        case measure => simp [intOf] <;> omega
      · obtain rfl : pk = lateB := e
        have hst := hid (HT2.out (ksL L j))
        have LS := hid ((HLY.out.call (hB.out.trans (A1.out.mono hB.out.size))).s)
        unfold lateB at X1
        clear r1 r2
        refine (PL _ LS.out).out.mono ?_; rintro e w4 ⟨⟨te, pe, rfl⟩, hb4⟩
        have hb5 := hid (bnext A1.out hb4)
        clear hb4
        go_wp2_with fail
        go_roundw
        case rel => exact ⟨j + 1, by go_num, by omega, hid (by rw [hks.out, hst.out]; exact hP.out.call hb5.out), hid (hX.out.call hb5.out), hid (hM.out.kept (below_grown hb5.out none) (by simp)), hid (Nat.le_trans hsz3.out hb5.out.size), hid (hB.out.trans (hb5.out.mono hB.out.size)), fun k hk hne => ((hb5.out.block k (Nat.lt_of_lt_of_le hk hsz3.out)).trans (hK.out k hk hne))⟩
        case measure => simp [intOf] <;> omega
    · obtain rfl : j = N := by omega
      have q1 : decide ((j : Int) < (j : Int)) = false := by simp
      have HP2 : Hid (Blk wr bp (strs (prT g n)).toArray 22) := by
        show Blk _ _ _ _
        have := hP.out
        rw [← HNL.out, ksL_all, HALL.out] at this
        exact this
      clear hlt
      go_wp2_with fail
      go_ret
      exact ⟨⟨bm + 1, bm, bp, rfl, HBM.out, ⟨hX.out, HP2.out, .inl hM.out⟩⟩, hB.out⟩
end Go.Proofs.YtckihjfkafdncaaGreatDoor
namespace Go.Proofs.YtckihjfkafdncaaGreatDoor
open Go.RowKit Go.Shelf
open Go.Lib (decDigits nDigits)
set_option linter.unusedVariables false
set_option linter.unusedSimpArgs false
set_option maxHeartbeats 1000000 in
theorem fd_plus (w : World) (s t : ByteArray) (hs : s.size ≤ 1000000) (ht : t.size ≤ 1000000) (hL : Lay w) :
    Calls Tryz.prog 32 #[.string s, .string t] w fun e w' => e = .returned (.string (op2B (· + ·) s t)) ∧ Below w.heap.size w w' := by
  have H := hid (q_Add w s t hs ht hL)
  obtain ⟨B, hB⟩ : ∃ B, op2B (· + ·) s t = B := ⟨_, rfl⟩
  obtain ⟨E, hE⟩ : ∃ E, op2E (· + ·) s t = E := ⟨_, rfl⟩
  rw [hB, hE] at H
  rw [hB]
  clear hs ht hL hB hE
  go_enter Tryz.func32, Tryz.ntmps32
  go_wp2_with fail
  refine H.out.mono ?_; rintro e w1 ⟨rfl, hb1⟩
  go_wp2_with fail
  go_ret
  exact ⟨rfl, hb1⟩
set_option maxHeartbeats 1000000 in
theorem fd_less (w : World) (s t : ByteArray) (hs : s.size ≤ 1000000) (ht : t.size ≤ 1000000) (hL : Lay w) :
    Calls Tryz.prog 34 #[.string s, .string t] w fun e w' => e = .returned (.string (op2B (· - ·) s t)) ∧ Below w.heap.size w w' := by
  have H := hid (q_Sub w s t hs ht hL)
  obtain ⟨B, hB⟩ : ∃ B, op2B (· - ·) s t = B := ⟨_, rfl⟩
  obtain ⟨E, hE⟩ : ∃ E, op2E (· - ·) s t = E := ⟨_, rfl⟩
  rw [hB, hE] at H
  rw [hB]
  clear hs ht hL hB hE
  go_enter Tryz.func34, Tryz.ntmps34
  go_wp2_with fail
  refine H.out.mono ?_; rintro e w1 ⟨rfl, hb1⟩
  go_wp2_with fail
  go_ret
  exact ⟨rfl, hb1⟩
set_option maxHeartbeats 1000000 in
theorem fd_times (w : World) (s t : ByteArray) (hs : s.size ≤ 1000000) (ht : t.size ≤ 1000000) (hL : Lay w) :
    Calls Tryz.prog 30 #[.string s, .string t] w fun e w' => e = .returned (.string (op2B (· * ·) s t)) ∧ Below w.heap.size w w' := by
  have H := hid (q_Mul w s t hs ht hL)
  obtain ⟨B, hB⟩ : ∃ B, op2B (· * ·) s t = B := ⟨_, rfl⟩
  obtain ⟨E, hE⟩ : ∃ E, op2E (· * ·) s t = E := ⟨_, rfl⟩
  rw [hB, hE] at H
  rw [hB]
  clear hs ht hL hB hE
  go_enter Tryz.func30, Tryz.ntmps30
  go_wp2_with fail
  refine H.out.mono ?_; rintro e w1 ⟨rfl, hb1⟩
  go_wp2_with fail
  go_ret
  exact ⟨rfl, hb1⟩
end Go.Proofs.YtckihjfkafdncaaGreatDoor
namespace Go.Proofs.YtckihjfkafdncaaGreatDoor
open Go.RowKit Go.Shelf Go.Maps
open Go.Lib (decDigits nDigits)
set_option linter.unusedVariables false
set_option linter.unusedSimpArgs false
theorem own_base {W : World} {base base' : Nat} {e : TypeId} {k : Nat} {v : Value} {n : Nat} {xs : List Value} (h : W.ownsRow base e k v n xs) (hb : base' ≤ base) : W.ownsRow base' e k v n xs := by
  obtain ⟨h1, h2⟩ := h
  rcases h2 with h2 | ⟨g, cap, cur, a1, a2, a3⟩
  · exact ⟨h1, .inl h2⟩
  · exact ⟨h1, .inr ⟨g, cap, cur, a1, Nat.le_trans hb a2, a3⟩⟩
theorem zero_nums (w : World) : (zeroValue 60).run Tryz.prog w = .ok (.slice none 0 0) w := by kernel_rfl
theorem sum_look0 {H : Type} {w : World} {B : Nat} (h : w.ownsMap Tryz.prog 3 (sumE (H := H)) B 0 (.map [])) {k : Int} (hk : (Lit.int .i64 k).wf = true) :
    (Instr.lookup 61 (.map (some B)) (.int .i64 k) true).run Tryz.prog w = .ok (.tuple #[.slice none 0 0, .bool false]) w := by
  obtain ⟨v, ps, h1, h2⟩ := h.look_ok (int_keyed Tryz.underlying3) Tryz.underlying61 (zero_nums w) (zd := .lit (.bool false)) (zp := []) rfl (keyOf_int_mk Tryz.underlying3 hk)
  have e1 : Maps.has (DataW.map [] : DataW H) (.int .i64 k) = false := by simp [Maps.has_eq]
  have e2 : (DataW.map [] : DataW H).atKey (.int .i64 k) (.lit (.bool false)) = .lit (.bool false) := by simp [DataW.atKey]
  rw [e1] at h1
  rw [e2] at h2
  rw [sumE_nil h2] at h1
  exact h1
theorem sum_look1 {H : Type} {w : World} {B m gs n cs : Nat} {k : Int} (h : w.ownsMap Tryz.prog 3 (sumE (H := H)) B m ((DataW.map []).put (.int .i64 k) (sumD gs 0 n cs))) (hk : (Lit.int .i64 k).wf = true) :
    (Instr.lookup 61 (.map (some B)) (.int .i64 k) true).run Tryz.prog w = .ok (.tuple #[.slice (some ⟨gs, 0, none⟩) n cs, .bool true]) w := by
  obtain ⟨v, ps, h1, h2⟩ := h.look_ok (int_keyed Tryz.underlying3) Tryz.underlying61 (zero_nums w) (zd := .lit (.bool false)) (zp := []) rfl (keyOf_int_mk Tryz.underlying3 hk)
  rw [has_put_same isMap_empty (show WideAt.IsKeyLit (.int .i64 k) from trivial)] at h1
  rw [atKey_put_same isMap_empty (show WideAt.IsKeyLit (.int .i64 k) from trivial)] at h2
  rw [sumE_row h2] at h1
  exact h1
set_option maxRecDepth 100000 in
set_option maxHeartbeats 4000000 in
theorem fd_below {H : Type} (w : World) (bx bm bp n : Nat) (g : Int → Nat) (most : Int) (hn : n ≤ 32) (hg : ∀ v : Int, v < 0 → g v = 0) (hz : zS n g ≤ 2 ^ n) (hN : NoiS H w bx bm bp g n) (hL : Lay w) :
    Calls Tryz.prog 31 #[.pointer (some ⟨bx, 0, none⟩), .int .i64 most] w fun e w' => e = .returned (.string (dyB (cmC g n most) n)) ∧ NoiS H w' bx bm bp g n ∧ w.grownBy w' (some bm) := by
  have PP : ∀ (V : World) (i : Nat), i ≤ n → Lay V → Hid (Calls Tryz.prog 32 #[.string (dyB (cmS g i) n), .string (dyB (g (i : Int)) n)] V fun e w' => e = .returned (.string (dyB (cmS g (i + 1)) n)) ∧ Below V.heap.size V w') := fun V i hi hV => by
    have h1 := dyB_size (m := n) (cmS_le hg hz (show i ≤ n + 1 by omega)) (by omega)
    have h2 := dyB_size (m := n) (g_le hg hz (show ((i : Nat) : Int) ≤ n by omega)) (by omega)
    have := fd_plus V (dyB (cmS g i) n) (dyB (g (i : Int)) n) (by omega) (by omega) hV
    rw [cm_plus hg hz hi (by omega)] at this
    exact this
  obtain ⟨J, hJ⟩ : ∃ J : Nat, (max 0 (min most ((n : Int) + 1))).toNat = J := ⟨_, rfl⟩
  have hJ1 : J ≤ n + 1 := by omega
  have eJ : max 0 (min most ((n : Int) + 1)) = (J : Int) := by omega
  rw [cmC_at, hJ]
  have HJ1 := hid hJ1; have EJ := hid eJ; have HL := hid hL; have HX := hid hN.x; have HP := hid hN.p; have HNN := hid hn
  have EJ2 : Hid (max 0 (min most ((n + 1 : Nat) : Int)) = (J : Int)) := eJ
  have b1 : (0 : Int) ≤ (J : Int) := by omega
  have b2 : (J : Int) < ((n + 2 : Nat) : Int) := by omega
  have b2' : (J : Int) < (n : Int) + 1 + 1 := by omega
  have wfk : (Lit.int .i64 ((n + 1 : Nat) : Int)).wf = true := WalkArith.wf_i64 ⟨by omega, by omega⟩
  have WFK := hid wfk
  have r0 := HX.out.cell 0
  have r1 := HX.out.cell 1
  simp at r0 r1
  rcases hN.m with hm | ⟨gs, cs, hm, hrow, hne⟩
  · have hlk : (Instr.lookup 61 (.map (some bm)) (.int .i64 ((n : Int) + 1)) true).run Tryz.prog w = .ok (.tuple #[.slice none 0 0, .bool false]) w := sum_look0 hm wfk
    have HM := hid hm
    obtain ⟨i0, hi, hz0, hz1, hz2⟩ := info_parts info_num
    clear hJ hJ1 eJ hL hN hm wfk hg hz b1 b2 b2'
    have wn32 : (n : Int) ≤ 32 := by omega
    clear hn
    have B1 : Hid (Below w.heap.size w (w.alloc (.cells #[.string ⟨#[48]⟩] 22))) := (Below.refl _ _).alloc (Nat.le_refl _) _
    have r2 := (HX.out.call B1.out).cell 0
    have r3 := (HX.out.call B1.out).cell 1
    simp only [List.getElem?_toArray, List.getElem?_cons_zero, List.getElem?_cons_succ] at r2 r3
    go_enter Tryz.func31, Tryz.ntmps31
    go_wp2_with fail
    have O1 : Hid ((w.alloc (.cells #[.string ⟨#[48]⟩] 22)).ownsRow w.heap.size 22 1 (.slice (some ⟨w.heap.size, 0, none⟩) 1 1) 1 (strs (cmL g n 0))) := by
      show World.ownsRow _ _ _ _ _ _ _
      rw [cmL_zero]
      exact owns_one (Blk.new w #[.string ⟨#[48]⟩] 22)
    clear r0 r1 r2 r3 hlk
    go_loopw [6, 8, 9, 32] (fun s6 s8 s9 s32 wr => ∃ i : Nat, s32 = .int .i64 (i : Nat) ∧ i ≤ n + 1 ∧ Hid (wr.ownsRow w.heap.size 22 1 s6 (i + 1) (strs (cmL g n i))) ∧ Hid (Below w.heap.size w wr)) (fun s6 s8 s9 s32 wr => n + 1 - (intOf s32).toNat)
    case atStart => exact ⟨0, rfl, Nat.zero_le _, O1, B1⟩
    case round =>
      obtain ⟨i, rfl, hi, hO, hB⟩ := hrel
      obtain ⟨gl, cl, rfl⟩ := ownsRow_succ hO.out
      by_cases hlt : i < n + 1
      · have d1 : wr.cell? ⟨bp, i, none⟩ = some (.string (dyB (g (i : Int)) n)) := by
          rw [(HP.out.call hB.out).cell, List.getElem?_toArray]
          exact strs_get (prT_get (by omega))
        obtain ⟨o1, o2, o3, o4, -, -, -⟩ := own_slot hO.out
        have d2 := o4 i _ (strs_get (cmL_get (g := g) (n := n) (Nat.le_refl i)))
        have PPi := fun V hV => PP V i (by omega) hV
        have HSU := hid (cmL_succ g n i)
        obtain ⟨S, hS⟩ : ∃ S, dyB (cmS g i) n = S := ⟨_, rfl⟩
        obtain ⟨T, hT⟩ : ∃ S, dyB (g (i : Int)) n = S := ⟨_, rfl⟩
        obtain ⟨U, hU⟩ : ∃ S, dyB (cmS g (i + 1)) n = S := ⟨_, rfl⟩
        rw [hT] at d1
        rw [hS] at d2
        rw [hS, hT, hU] at PPi
        rw [hU] at HSU
        have b3 : (0 : Int) ≤ (i : Int) := by omega
        have b4 : (i : Int) < (n : Int) + 1 := by omega
        have b5 : (i : Int) < (i : Int) + 1 := by omega
        have b6 : (i : Int) < ((i + 1 : Nat) : Int) := by omega
        have wi : IntKind.i64.wrap ((i : Int) + 1) = ((i + 1 : Nat) : Int) := by rw [IntWalk.i64_in _ ⟨by omega, by omega⟩]; omega
        have O1b := hid o1
        clear hS hT hU o1 o2 o3 o4 hi hlt
        go_wp2_with fail
        refine (PPi _ (HL.out.call hB.out)).out.mono ?_; rintro e w2 ⟨rfl, hb2⟩
        have y2 := hid (bnext hB.out hb2)
        have O2 := hid (owns_call hO.out hb2)
        clear hb2 d1 d2
        go_wp2_with (at_builtin; refine wpList_append_own _ rfl _ _ 60 rfl w.heap.size 22 i0 (.string ⟨#[]⟩) 1 16 Tryz.underlying60 hi hz0 hz1 hz2 rfl (by decide) _ (i + 1) _ rfl (O2.out.alloc _) ⟨w2.heap.size, 0, none⟩ 1 1 [.string U] rfl rfl (cell_one_new w2 (.string U) 22) (by simp [Value.oneCell']) (by unfold maxLen; omega) (by omega) (by have := y2.out.size; simp; omega) ?_; intro v' w3 hown3 hgrow3 _)
        have hO3 := hid (show w3.ownsRow w.heap.size 22 1 v' (i + 1 + 1) (strs (cmL g n (i + 1))) by rw [HSU.out, strs_append]; exact hown3)
        have hB3 : Hid (Below w.heap.size w w3) := by
          refine (y2.out.alloc y2.out.size _).trans ⟨hgrow3.os, hgrow3.tape, hgrow3.output, hgrow3.size, fun k' hk' => hgrow3.block k' (by have := y2.out.size; simp; omega) (fun e => ?_)⟩
          have : k' = gl := by injection e
          have := O1b.out
          omega
        clear hown3 hgrow3
        go_wp2_with fail
        go_roundw
        case rel => exact ⟨i + 1, by go_num, by omega, hO3, hB3⟩
        case measure => simp [intOf] <;> omega
      · obtain rfl : i = n + 1 := by omega
        obtain ⟨o1, o2, o3, o4, -, o6, -⟩ := own_slot hO.out
        have d2 := o4 J _ (strs_get (cmL_get (g := g) (n := n) (i := n + 1) HJ1.out))
        have HR := hid (Row.of_owns hO.out)
        have M1 := hid (HM.out.kept (below_grown hB.out none) (by simp))
        have hbm := HM.out.lt
        have hne : gl ≠ bm := by omega
        have r2 := (HX.out.call hB.out).cell 0
        have r3 := (HX.out.call hB.out).cell 1
        simp at r2 r3
        have q9 : decide ((n : Int) + 1 < (n : Int) + 1) = false := by simp
        have HNE := hid hne; have HGL := hid o1; have D2 := hid d2
        clear hlt hi o1 o2 o3 o4 o6 hbm hne d2
        go_wp2_with (at_mapUpdate; refine wpList_mapUpdate_own _ rfl _ _ _ 61 rfl 3 60 (int_keyed Tryz.underlying3) Tryz.underlying61 _ bm 0 _ rfl M1.out (by unfold maxLen; omega) _ _ (.int .i64 ((n + 1 : Nat) : Int)) rfl rfl (keyOf_int_mk Tryz.underlying3 WFK.out) (sumD gl 0 (n + 2) cl) [] rfl ?_; intro w4 hown4 hgrow4
                     have d4 := hgrow4.cell D2.out (by intro e; injection e with e; exact HNE.out (by first | exact e | exact e.symm | omega))
                     have eJ := EJ.out
                     have b1 : (0 : Int) ≤ (J : Int) := by omega
                     have b2 : (J : Int) < (n : Int) + 1 + 1 := by have := HJ1.out; omega
                     have b3 : (J : Int) < ((n + 1 + 1 : Nat) : Int) := by have := HJ1.out; omega
                     have HG4 := hid hgrow4; have HO4 := hid hown4
                     clear hgrow4 hown4)
        go_ret
        have hrow : ∀ r, some bm = some r → ∃ o : Obj, wr.heap[r]? = some o ∧ o.isCells = false := fun r e => by
          injection e with e
          subst e
          obtain ⟨es, ck, h, -⟩ := M1.out
          exact ⟨_, h, rfl⟩
        refine ⟨rfl, ⟨(HX.out.call hB.out).kept HG4.out hrow, (HP.out.call hB.out).kept HG4.out hrow, .inr ⟨gl, cl, HO4.out, own_base (hO.out.kept HG4.out (.inr fun e => HNE.out (by injection e))) (Nat.zero_le _), HNE.out⟩⟩, ?_⟩
        exact ⟨HG4.out.os.trans hB.out.os, HG4.out.tape.trans hB.out.tape, HG4.out.output.trans hB.out.output, Nat.le_trans hB.out.size HG4.out.size, fun k hk hne => (HG4.out.block k (Nat.lt_of_lt_of_le hk hB.out.size) hne).trans (hB.out.block k hk)⟩
  · have hlk : (Instr.lookup 61 (.map (some bm)) (.int .i64 ((n : Int) + 1)) true).run Tryz.prog w = .ok (.tuple #[.slice (some ⟨gs, 0, none⟩) (n + 2) cs, .bool true]) w := sum_look1 hm wfk
    obtain ⟨a', c', e, k1, k2, k3⟩ := (Row.of_owns hrow).openS
    have HM := hid hm; have HROW := hid hrow; have HNE := hid hne
    obtain ⟨gr, orr, er, hgr, hcr⟩ := k3 J _ (cmL_get hJ1)
    simp only [Value.slice.injEq] at e
    obtain ⟨rfl, -, rfl⟩ := e
    simp only [Option.some.injEq, Addr.mk.injEq] at er
    obtain ⟨rfl, rfl, -⟩ := er
    rw [Nat.zero_add] at hcr
    obtain ⟨sJ, hsJ⟩ : ∃ s, dyB (cmS g J) n = s := ⟨_, rfl⟩
    rw [hsJ] at hcr ⊢
    rw [cmL_length] at k1
    clear hJ hJ1 hL hm wfk hg hz hn PP k3 hsJ hrow hne
    go_enter Tryz.func31, Tryz.ntmps31
    go_wp2_with fail
    go_ret
    exact ⟨rfl, ⟨HX.out, HP.out, .inr ⟨_, _, HM.out, HROW.out, HNE.out⟩⟩, ⟨rfl, rfl, rfl, Nat.le_refl _, fun _ _ _ => rfl⟩⟩
end Go.Proofs.YtckihjfkafdncaaGreatDoor
namespace Go.Proofs.YtckihjfkafdncaaGreatDoor
open Go.RowKit Go.Shelf
set_option linter.unusedVariables false
set_option linter.unusedSimpArgs false
theorem own_setK {W : World} {base : Nat} {e : TypeId} {k g n cap : Nat} {xs : List Value} (h : W.ownsRow base e k (.slice (some ⟨g, 0, none⟩) n cap) n xs) (i : Nat) (x : Value) : (W.setCell ⟨g, i, none⟩ x).ownsRow base e k (.slice (some ⟨g, 0, none⟩) n cap) n (xs.set i x) := by
  rcases h.2 with ⟨e1, _⟩ | ⟨g', cap', cur, e1, hb, hg, h1, h2, h3, h4⟩
  · simp at e1
  · simp at e1
    obtain ⟨rfl, rfl⟩ := e1
    refine ⟨by rw [List.length_set]; exact h.1, .inr ⟨g, cap, cur.setIfInBounds i x, rfl, hb, Blk.set hg i x, h1, h2, by simpa using h3, ?_⟩⟩
    rw [Array.toList_setIfInBounds, List.take_set, h4]
theorem own_slotK {W : World} {base : Nat} {e : TypeId} {k g n cap : Nat} {xs : List Value} (h : W.ownsRow base e k (.slice (some ⟨g, 0, none⟩) n cap) n xs) : base ≤ g ∧ g < W.heap.size ∧ (∀ i, W.frozen? ⟨g, i, none⟩ = false) ∧ (∀ (i : Nat) (x : Value), xs[i]? = some x → W.cell? ⟨g, i, none⟩ = some x) ∧ cap ≤ 9223372036854775807 ∧ n ≤ cap := by
  have hh := h
  rcases h.2 with ⟨e1, _⟩ | ⟨g', cap', cur, e1, hb, hg, h1, h2, h3, h4⟩
  · simp at e1
  · simp at e1
    obtain ⟨rfl, rfl⟩ := e1
    refine ⟨hb, (Array.getElem?_eq_some_iff.1 hg).1, fun i => Blk.free hg i, fun i x hx => ?_, by unfold maxLen at h2; omega, h1⟩
    have := hh.cells rfl i x hx
    rw [Addr.add_lit, Nat.zero_add] at this
    exact this
theorem own_cutK {W : World} {base : Nat} {e : TypeId} {k g n m cap : Nat} {xs : List Value} (h : W.ownsRow base e k (.slice (some ⟨g, 0, none⟩) n cap) n xs) (hm : m ≤ n) : W.ownsRow base e k (.slice (some ⟨g, 0, none⟩) m cap) m (xs.take (m * k)) := by
  have hl := h.1
  rcases h.2 with ⟨e1, _⟩ | ⟨g', cap', cur, e1, hb, hg, h1, h2, h3, h4⟩
  · simp at e1
  · simp at e1
    obtain ⟨rfl, rfl⟩ := e1
    have hk : m * k ≤ n * k := Nat.mul_le_mul_right k hm
    refine ⟨by rw [List.length_take, hl]; omega, .inr ⟨g, cap, cur, rfl, hb, hg, by omega, h2, h3, ?_⟩⟩
    rw [← h4, List.take_take, Nat.min_eq_left hk]
theorem own_setCells {base : Nat} {e : TypeId} {k g n cap : Nat} : ∀ (vs : List Value) (o : Nat) {W : World} {xs : List Value}, W.ownsRow base e k (.slice (some ⟨g, 0, none⟩) n cap) n xs → ∃ ys, (W.setCells g o vs).ownsRow base e k (.slice (some ⟨g, 0, none⟩) n cap) n ys ∧ ys.take o = xs.take o
  | [], o, W, xs, h => ⟨xs, h, rfl⟩
  | v :: r, o, W, xs, h => by
    obtain ⟨ys, h1, h2⟩ := own_setCells r (o + 1) (own_setK h o v)
    refine ⟨ys, h1, ?_⟩
    have h3 := congrArg (List.take o) h2
    rw [List.take_take, List.take_take, Nat.min_eq_left (by omega)] at h3
    rw [h3, List.take_set, List.set_eq_of_length_le (by rw [List.length_take]; omega)]
theorem below_setCells {base g : Nat} (hb : base ≤ g) : ∀ (vs : List Value) (o : Nat) {w W : World}, Below base w W → Below base w (W.setCells g o vs)
  | [], _, _, _, h => h
  | v :: r, o, w, W, h => below_setCells hb r (o + 1) (h.setCell hb v)
theorem run_clear2 (w : World) (t e ty : TypeId) (z : Value) (x y : Value) (ht : Tryz.prog.underlying t = some (.slice e)) (hv : ∀ w, (zeroValue e).run Tryz.prog w = .ok z w) (hz : z.cells = #[x, y]) (h1 : x.oneCell' = true) (h2 : y.oneCell' = true) (b o n c : Nat) (hn : 0 < n)
    (hc : ∀ j, j < n * 2 → (w.cell? ⟨b, o + j, none⟩).isSome = true) (hf : ∀ j, j < n * 2 → w.frozen? ⟨b, o + j, none⟩ = false) :
    ∃ vs, (Builtin.clear_ #[t] ty #[.slice (some ⟨b, o, none⟩) n c]).run Tryz.prog w = .ok (.tuple #[]) (w.setCells b o vs) := by
  obtain ⟨vs, hvs⟩ : ∃ vs, (Builtin.zeroCells z.cells n).toList = vs := ⟨_, rfl⟩
  have hlen : vs.length = n * 2 := by rw [← hvs, hz]; simp [Builtin.zeroCells]
  have hone : ∀ v ∈ vs, v.oneCell' = true := by
    intro v hv'
    rw [← hvs, hz] at hv'
    simp [Builtin.zeroCells] at hv'
    obtain ⟨i, hi, rfl⟩ := hv'
    rcases Nat.mod_two_eq_zero_or_one i with h | h <;> simp [h, h1, h2]
  have hst := run_storeCells_cells (P := Tryz.prog) b o vs 0 w (by rw [hlen]; simpa using hc) (by rw [hlen]; simpa using hf) hone
  simp only [Nat.add_zero] at hst
  refine ⟨vs, ?_⟩
  obtain ⟨m, rfl⟩ : ∃ m, n = m + 1 := ⟨n - 1, by omega⟩
  simp [Builtin.clear_, run_underlying ht, hv, hvs, hst]
theorem zero_mass (w : World) : (zeroValue 39).run Tryz.prog w = .ok (.agg #[.string ⟨#[]⟩, .string ⟨#[]⟩]) w := by kernel_rfl
def ixM (p : ByteArray × ByteArray → Bool) (l : List (ByteArray × ByteArray)) : Int := if l.any p = true then (l.findIdx p : Nat) else -1
set_option maxRecDepth 100000 in
set_option maxHeartbeats 2000000 in
theorem s_IndexFuncM (w : World) (v : Value) (l : List (ByteArray × ByteArray)) (F : Nat) (p : ByteArray × ByteArray → Bool) (hv : MRow w v l) (hen : ∀ args w, (callFunc F args).run Tryz.prog w = .ok (.enter F args) w)
    (hF : ∀ W (x : ByteArray × ByteArray), Calls Tryz.prog F #[.agg #[.string x.1, .string x.2]] W fun e w' => e = .returned (.bool (p x)) ∧ Below W.heap.size W w') :
    Calls Tryz.prog 86 #[v, .func (.func F) #[] #[]] w fun e w' => e = .returned (.int .i64 (ixM p l)) ∧ Below w.heap.size w w' := by
  obtain ⟨a, c, rfl, q1, q2, q3⟩ := hv.ex
  obtain ⟨n, hn⟩ : ∃ n, l.length = n := ⟨_, rfl⟩
  rw [hn] at q1 ⊢
  have HN := hid hn; have Q3 := hid q3; have HF := hid hF
  clear hv q3 hn hF
  go_enter Tryz.func86, Tryz.ntmps86
  go_wp2_with fail
  go_loopw [8] (fun ii wr => ∃ i : Nat, ii = .int .i64 i ∧ i ≤ n ∧ Hid (∀ j x, j < i → l[j]? = some x → p x = false) ∧ Hid (Below w.heap.size w wr)) (fun ii wr => n - (intOf ii).toNat)
  case atStart => exact ⟨0, rfl, Nat.zero_le _, fun j x hj => absurd hj (by omega), Below.refl _ _⟩
  case round =>
    obtain ⟨i, rfl, hi, hI, hB⟩ := hrel
    by_cases hlt : i < n
    · obtain ⟨x, hx⟩ : ∃ x, l[i]? = some x := ⟨_, List.getElem?_eq_getElem (by rw [HN.out]; exact hlt)⟩
      obtain ⟨g, o, rfl, hg, m1, m2⟩ := Q3.out i x hx
      rw [Nat.mul_comm 2] at m1 m2
      have r1 := (hB.out.cell (p := ⟨g, o + i * 2, none⟩) hg).trans m1
      have r2 := (hB.out.cell (p := ⟨g, o + i * 2 + 1, none⟩) hg).trans m2
      have HX := hid hx
      have b1 : (0 : Int) ≤ (i : Int) := by omega
      have b2 : (i : Int) < (n : Int) := by omega
      have wi : IntKind.i64.wrap ((i : Int) + 1) = ((i + 1 : Nat) : Int) := by rw [IntWalk.i64_in _ ⟨by omega, by omega⟩]; omega
      obtain ⟨z, hz⟩ : ∃ z, p x = z := ⟨_, rfl⟩
      have C := fun W => hid (hz ▸ HF.out W x)
      have HZ := hid hz
      clear hx hz m1 m2 hg
      go_wp2_with fail
      refine (C _).out.mono ?_; rintro e w1 ⟨rfl, hb1⟩
      have y1 := hid (bnext hB.out hb1)
      clear hb1
      cases z
      · go_wp2_with fail
        go_roundw
        case rel => exact ⟨i + 1, by go_num, by omega, fun j y hj hy => by
          rcases Nat.lt_or_ge j i with h | h
          · exact hI.out j y h hy
          · obtain rfl : j = i := by omega
            rw [HX.out] at hy; cases hy; exact HZ.out, y1⟩
        case measure => simp [intOf] <;> omega
      · have hA : l.any p = true := List.any_eq_true.2 ⟨x, List.mem_of_getElem? HX.out, HZ.out⟩
        have hfi : l.findIdx p = i := by
          have hil : i < l.length := by rw [HN.out]; exact hlt
          rw [List.findIdx_eq hil]
          refine ⟨?_, fun j hj => ?_⟩
          · have := HX.out; rw [List.getElem?_eq_getElem hil] at this; rw [Option.some.inj this]; exact HZ.out
          · exact hI.out j _ hj (List.getElem?_eq_getElem (Nat.lt_trans hj hil))
        have HE := hid (show ixM p l = (i : Int) from by rw [ixM, if_pos hA, hfi])
        clear hA hfi
        go_wp2_with fail
        go_ret
        exact ⟨by rw [HE.out]; rfl, y1.out⟩
    · obtain rfl : i = n := by omega
      have hA : ¬ l.any p = true := fun h => by
        obtain ⟨x, hx, hp⟩ := List.any_eq_true.1 h
        obtain ⟨j, hj⟩ := List.getElem?_of_mem hx
        have := hI.out j x (by rw [← HN.out]; exact (List.getElem?_eq_some_iff.1 hj).1) hj
        rw [this] at hp; cases hp
      have HE := hid (show ixM p l = -1 from by rw [ixM, if_neg hA])
      have q0 : decide ((i : Int) < (i : Int)) = false := by simp
      clear hA hlt
      go_wp2_with fail
      go_ret
      exact ⟨by rw [HE.out]; rfl, hB.out⟩
structure DelI (del : ByteArray × ByteArray → Bool) (L D : List (ByteArray × ByteArray)) (i j : Nat) : Prop where
  len : D.length = L.length
  lt : i < j
  le : j ≤ L.length
  front : D.take i = (L.take j).filter fun x => !del x
  back : D.drop j = L.drop j
theorem DelI.start {del : ByteArray × ByteArray → Bool} {L : List (ByteArray × ByteArray)} (h : L.any del = true) : DelI del L L (L.findIdx del) (L.findIdx del + 1) := by
  have hk : L.findIdx del < L.length := List.findIdx_lt_length.2 (List.any_eq_true.1 h)
  have hd : del L[L.findIdx del] = true := List.findIdx_getElem
  refine ⟨rfl, Nat.lt_succ_self _, hk, ?_, rfl⟩
  rw [List.take_add_one, List.getElem?_eq_getElem hk, List.filter_append]
  have e1 : List.filter (fun x => !del x) (some L[L.findIdx del]).toList = [] := by simp [hd]
  rw [e1, List.append_nil]
  symm
  rw [List.filter_eq_self]
  intro x hx
  obtain ⟨j, hj, rfl⟩ := List.getElem_of_mem hx
  rw [List.length_take] at hj
  rw [List.getElem_take]
  have := List.not_of_lt_findIdx (p := del) (xs := L) (i := j) (by omega)
  simpa using this
theorem DelI.at_ {del : ByteArray × ByteArray → Bool} {L D : List (ByteArray × ByteArray)} {i j : Nat} (h : DelI del L D i j) {x : ByteArray × ByteArray} (hx : L[j]? = some x) : D[j]? = some x := by
  have := congrArg (fun l => l[0]?) h.back
  simp only [List.getElem?_drop, Nat.add_zero] at this
  rw [this, hx]
theorem DelI.keep {del : ByteArray × ByteArray → Bool} {L D : List (ByteArray × ByteArray)} {i j : Nat} (h : DelI del L D i j) {x : ByteArray × ByteArray} (hx : L[j]? = some x) (hd : del x = false) : DelI del L (D.set i x) (i + 1) (j + 1) := by
  have hj := (List.getElem?_eq_some_iff.1 hx).1
  have hlt := h.lt
  refine ⟨by rw [List.length_set]; exact h.len, by omega, hj, ?_, ?_⟩
  · have e1 : L.take (j + 1) = L.take j ++ [x] := by rw [List.take_add_one, hx]; rfl
    have e2 : (D.set i x).take (i + 1) = D.take i ++ [x] := by
      rw [List.take_add_one, List.getElem?_set_self (by rw [h.len]; omega), List.take_set, List.set_eq_of_length_le (by rw [List.length_take]; omega)]; rfl
    rw [e1, e2, List.filter_append, ← h.front]
    simp [hd]
  · rw [List.drop_set_of_lt (by omega), ← List.drop_drop, h.back, List.drop_drop]
theorem DelI.skip {del : ByteArray × ByteArray → Bool} {L D : List (ByteArray × ByteArray)} {i j : Nat} (h : DelI del L D i j) {x : ByteArray × ByteArray} (hx : L[j]? = some x) (hd : del x = true) : DelI del L D i (j + 1) := by
  have hj := (List.getElem?_eq_some_iff.1 hx).1
  have hlt := h.lt
  refine ⟨h.len, by omega, hj, ?_, ?_⟩
  · rw [List.take_add_one, hx, List.filter_append, ← h.front]
    simp [hd]
  · rw [← List.drop_drop, h.back, List.drop_drop]
theorem massC_set {D : List (ByteArray × ByteArray)} {i : Nat} (x : ByteArray × ByteArray) (hi : i < D.length) : ((massC D).set (i * 2) (.string x.1)).set (i * 2 + 1) (.string x.2) = massC (D.set i x) := by
  apply List.ext_getElem?
  intro k
  rw [massC_at, List.getElem?_set, List.getElem?_set]
  simp only [List.length_set, massC_length]
  by_cases h1 : i * 2 + 1 = k
  · subst h1
    rw [if_pos rfl, if_pos (by omega), show (i * 2 + 1) / 2 = i by omega, List.getElem?_set_self hi, Option.map_some, if_neg (by omega)]
  · rw [if_neg h1]
    by_cases h2 : i * 2 = k
    · subst h2
      rw [if_pos rfl, if_pos (by omega), show i * 2 / 2 = i by omega, List.getElem?_set_self hi, Option.map_some, if_pos (by omega)]
    · rw [if_neg h2, massC_at, List.getElem?_set_ne (by omega)]
theorem massC_take (D : List (ByteArray × ByteArray)) (i : Nat) : (massC D).take (i * 2) = massC (D.take i) := by
  apply List.ext_getElem?
  intro k
  rw [massC_at]
  by_cases h : k < i * 2
  · rw [List.getElem?_take_of_lt h, massC_at, List.getElem?_take_of_lt (by omega)]
  · rw [List.getElem?_take_eq_none (by omega), List.getElem?_take_eq_none (by omega)]; rfl
set_option maxRecDepth 100000 in
set_option maxHeartbeats 4000000 in
theorem s_DelM (w : World) (F : Nat) (del : ByteArray × ByteArray → Bool) (g cap base n : Nat) (L : List (ByteArray × ByteArray)) (hO : w.ownsRow base 39 2 (.slice (some ⟨g, 0, none⟩) n cap) n (massC L)) (hl : L.length = n) (hn : n ≤ 100000) (hb : base ≤ w.heap.size)
    (hen : ∀ args w, (callFunc F args).run Tryz.prog w = .ok (.enter F args) w)
    (hF : ∀ W (x : ByteArray × ByteArray), Calls Tryz.prog F #[.agg #[.string x.1, .string x.2]] W fun e w' => e = .returned (.bool (del x)) ∧ Below W.heap.size W w') :
    Calls Tryz.prog 35 #[.slice (some ⟨g, 0, none⟩) n cap, .func (.func F) #[] #[]] w fun e w' => (∃ m, m = (L.filter fun x => !del x).length ∧ e = .returned (.slice (some ⟨g, 0, none⟩) m cap) ∧ w'.ownsRow base 39 2 (.slice (some ⟨g, 0, none⟩) m cap) m (massC (L.filter fun x => !del x))) ∧ Below base w w' := by
  have PI := hid (s_IndexFuncM w _ L F del (MRow.of_owns hO) hen hF)
  have HO := hid hO
  obtain ⟨o1, o2, o3, o4, o5, o6⟩ := own_slotK hO
  have HF := hid hF; have HL := hid hl; have HB := hid hb; have HG := hid o1
  by_cases hany : L.any del = true
  · have st := hid (DelI.start hany)
    have ei : ixM del L = (L.findIdx del : Nat) := by rw [ixM, if_pos hany]
    rw [ei] at PI
    obtain ⟨k, hk⟩ : ∃ k, L.findIdx del = k := ⟨_, rfl⟩
    rw [hk] at PI st
    have hkn : k < n := by have := st.out.le; omega
    have q0 : ((k : Int) == -1) = false := by rw [beq_eq_false_iff_ne]; omega
    have wk : IntKind.i64.wrap ((k : Int) + 1) = ((k + 1 : Nat) : Int) := by rw [IntWalk.i64_in _ ⟨by omega, by omega⟩]; omega
    clear hO hF hl hb hany ei hk o1 o2 o3 o4
    go_enter Tryz.func35, Tryz.ntmps35
    go_wp2_with fail
    refine PI.out.mono ?_; rintro e w1 ⟨rfl, hb1⟩
    have y1 := hid (hb1.mono HB.out)
    have O1 := hid (owns_call HO.out hb1)
    clear hb1
    go_wp2_with fail
    go_loopw [5, 6, 7] (fun s5 s6 s7 wr => ∃ (i j : Nat) (D : List (ByteArray × ByteArray)), s5 = .int .i64 (i : Nat) ∧ s6 = .int .i64 (j : Nat) ∧ j ≤ n ∧ i < j ∧ Hid (DelI del L D i j) ∧ Hid (wr.ownsRow base 39 2 (.slice (some ⟨g, 0, none⟩) n cap) n (massC D)) ∧ Hid (Below base w wr)) (fun s5 s6 s7 wr => n - (intOf s6).toNat)
    case atStart => exact ⟨k, k + 1, L, rfl, by go_num, by omega, by omega, st, O1, y1⟩
    case round =>
      obtain ⟨i, j, D, rfl, rfl, hj, hij, hI, hO, hBl⟩ := hrel
      obtain ⟨o1, o2, o3, o4, -, -⟩ := own_slotK hO.out
      have hDl := hI.out.len
      by_cases hlt : j < n
      · obtain ⟨x, hx⟩ : ∃ x, L[j]? = some x := ⟨_, List.getElem?_eq_getElem (by rw [HL.out]; exact hlt)⟩
        obtain ⟨m1, m2⟩ := massC_get (hI.out.at_ hx)
        obtain ⟨y, hy⟩ : ∃ y, D[i]? = some y := ⟨_, List.getElem?_eq_getElem (by rw [hDl, HL.out]; omega)⟩
        obtain ⟨m3, m4⟩ := massC_get hy
        have r1 := o4 _ _ m1
        have r2 := o4 _ _ m2
        have r3 := o4 _ _ m3
        have r4 := o4 _ _ m4
        rw [Nat.mul_comm 2] at r1 r2 r3 r4
        have f1 := o3 (i * 2)
        have f2 := o3 (i * 2 + 1)
        have b1 : (0 : Int) ≤ (j : Int) := by omega
        have b2 : (j : Int) < (n : Int) := by omega
        have b3 : (0 : Int) ≤ (i : Int) := by omega
        have b4 : (i : Int) < (n : Int) := by omega
        have wj : IntKind.i64.wrap ((j : Int) + 1) = ((j + 1 : Nat) : Int) := by rw [IntWalk.i64_in _ ⟨by omega, by omega⟩]; omega
        have wi : IntKind.i64.wrap ((i : Int) + 1) = ((i + 1 : Nat) : Int) := by rw [IntWalk.i64_in _ ⟨by omega, by omega⟩]; omega
        obtain ⟨z, hz⟩ : ∃ z, del x = z := ⟨_, rfl⟩
        have C := fun W => hid (hz ▸ HF.out W x)
        have HX := hid hx; have HZ := hid hz
        have hset := hid (massC_set (D := D) (i := i) x (by rw [hDl, HL.out]; omega))
        have X1 := hid (Blk.new wr #[.string x.1, .string x.2] 39)
        have A1 := hid ((Below.refl wr.heap.size wr).alloc (Nat.le_refl _) (.cells #[.string x.1, .string x.2] 39))
        have O2 := hid (owns_call hO.out A1.out)
        have GL : Hid (g < wr.heap.size) := o2
        clear hx hz m1 m2 m3 m4 o4 hy
        obtain ⟨xk, xv⟩ := x
        dsimp only at *
        go_wp2_with fail
        refine (C _).out.mono ?_; rintro e w2 ⟨rfl, hb2⟩
        have hb2' := bnext A1.out hb2
        have X2 := hid (X1.out.call hb2)
        have O3 := hid (owns_call O2.out hb2)
        have B2 := hid (hBl.out.trans (hb2'.mono (by omega)))
        have z0 := X2.out.cell 0
        have z1 := X2.out.cell 1
        simp at z0 z1
        have r3 := (hb2'.cell (p := ⟨g, i * 2, none⟩) GL.out).trans r3
        have r4 := (hb2'.cell (p := ⟨g, i * 2 + 1, none⟩) GL.out).trans r4
        obtain ⟨-, -, g3, -, -, -⟩ := own_slotK O3.out
        have f1 := g3 (i * 2)
        have f2 := g3 (i * 2 + 1)
        clear hb2 hb2' r1 r2
        cases z
        · go_wp2_with fail
          go_roundw
          case rel =>
            refine ⟨i + 1, j + 1, D.set i (xk, xv), by go_num, by go_num, by omega, by omega, hid (hI.out.keep HX.out HZ.out), ?_, hid ((B2.out.setCell o1 _).setCell o1 _)⟩
            have h5 := own_setK (own_setK O3.out (i * 2) (.string xk)) (i * 2 + 1) (.string xv)
            rw [hset.out] at h5
            exact h5
          case measure => simp [intOf] <;> omega
        · clear f1 f2 r3 r4
          go_wp2_with fail
          go_roundw
          case rel => exact ⟨i, j + 1, D, rfl, by go_num, by omega, by omega, hid (hI.out.skip HX.out HZ.out), O3, B2⟩
          case measure => simp [intOf] <;> omega
      · obtain rfl : j = n := by omega
        have q1 : decide ((j : Int) < (j : Int)) = false := by simp
        have b1 : (0 : Int) ≤ (i : Int) := by omega
        have b2 : (i : Int) ≤ (j : Int) := by omega
        have b3 : (j : Int) ≤ (cap : Int) := by omega
        have b4 : (i : Int) ≤ (cap : Int) := by omega
        obtain ⟨vs, hcl⟩ := run_clear2 wr 26 39 0 (.agg #[.string ⟨#[]⟩, .string ⟨#[]⟩]) (.string ⟨#[]⟩) (.string ⟨#[]⟩) Tryz.underlying26 zero_mass rfl rfl rfl g (i * 2) (j - i) (cap - i) (by omega)
          (fun k hk => by
            obtain ⟨v, hv⟩ : ∃ v, (massC D)[i * 2 + k]? = some v := ⟨_, List.getElem?_eq_getElem (by rw [massC_length, hDl, HL.out]; omega)⟩
            rw [o4 _ _ hv]; rfl)
          (fun k hk => o3 _)
        obtain ⟨ys, w3, w4⟩ := own_setCells vs (i * 2) hO.out
        have hfr := hI.out.front
        have hT : L.take j = L := List.take_of_length_le (by rw [HL.out]; exact Nat.le_refl _)
        rw [hT] at hfr
        have hcut := own_cutK w3 (m := i) (by omega)
        rw [w4, massC_take, hfr] at hcut
        have hcb := hid (below_setCells o1 vs (i * 2) hBl.out)
        have hlen : i = (L.filter fun x => !del x).length := by rw [← hfr, List.length_take, hDl, HL.out]; omega
        have HC := hid hcut; have HLN := hid hlen
        clear hlt o4 w3 w4 hfr hcut hlen hT
        go_wp2_with fail
        go_ret
        refine ⟨⟨i, HLN.out, rfl, HC.out⟩, hcb.out⟩
  · have hk : (L.filter fun x => !del x) = L := List.filter_eq_self.2 fun x hx => by
      cases hd : del x
      · rfl
      · exact absurd (List.any_eq_true.2 ⟨x, hx, hd⟩) hany
    have ei : ixM del L = -1 := by rw [ixM, if_neg hany]
    rw [ei] at PI
    rw [hk]
    have q0 : ((-1 : Int) == -1) = true := rfl
    clear hO hF hb hany ei hk o1 o2 o3 o4
    go_enter Tryz.func35, Tryz.ntmps35
    go_wp2_with fail
    refine PI.out.mono ?_; rintro e w1 ⟨rfl, hb1⟩
    go_wp2_with fail
    go_ret
    exact ⟨⟨n, HL.out.symm, rfl, owns_call HO.out hb1⟩, hb1.mono HB.out⟩
end Go.Proofs.YtckihjfkafdncaaGreatDoor
namespace Go.Proofs.YtckihjfkafdncaaGreatDoor
open Go.RowKit Go.Shelf
open Go.Lib (decDigits nDigits)
set_option linter.unusedVariables false
set_option linter.unusedSimpArgs false
def flE (c : List Int) (a : ByteArray) (n : Int) : Int := if qnE c a ≠ 0 then qnE c a else if n < 0 ∨ 32 < n then 2 else if 256 < n * (c.length : Nat) then 5 else 0
def flR (c : List Int) (a : ByteArray) (n : Int) : List (ByteArray × ByteArray) := if flE c a n = 0 then sortM (fkP (gV (bN (cW a)) (bN (qD a)) false n.toNat) n.toNat c) else []
theorem fd_isZ (w : World) (x : ByteArray × ByteArray) : Calls Tryz.prog 36 #[.agg #[.string x.1, .string x.2]] w fun e w' => e = .returned (.bool (!notZ x)) ∧ Below w.heap.size w w' := by
  obtain ⟨k, v⟩ := x
  have X1 := hid (Blk.new w #[.string k, .string v] 39)
  have z1 := X1.out.cell 1
  simp at z1
  dsimp only
  by_cases h : v = ⟨#[48]⟩
  · subst h
    have e1 : (!notZ (k, (⟨#[48]⟩ : ByteArray))) = true := by simp [notZ]
    rw [e1]
    go_enter Tryz.func36, Tryz.ntmps36
    go_wp2_with fail
    go_ret
    exact ⟨rfl, (Below.refl _ _).alloc (Nat.le_refl _) _⟩
  · have e1 : (!notZ (k, v)) = false := by simp [notZ, h]
    rw [e1]
    have t1 : (v.toList == [48]) = false := ne_lit h
    clear h e1
    go_enter Tryz.func36, Tryz.ntmps36
    go_wp2_with fail
    go_ret
    exact ⟨rfl, (Below.refl _ _).alloc (Nat.le_refl _) _⟩
theorem own_block {W : World} {base : Nat} {e : TypeId} {k : Nat} {v : Value} {n : Nat} {xs : List Value} (h : W.ownsRow base e k v n xs) : ∀ r, v.ownBlock = some r → ∃ cur, W.heap[r]? = some (.cells cur e (0, 0)) := by
  intro r hr
  rcases h.2 with ⟨rfl, _⟩ | ⟨g, cap, cur, rfl, _, hg, _⟩
  · simp [Value.ownBlock] at hr
  · simp only [Value.ownBlock, Option.some.injEq] at hr
    subst hr
    exact ⟨_, hg⟩
structure LwI (w W1 wr : World) (bx bm bp : Nat) (g : Int → Nat) (n : Nat) (d : Value) (i : Nat) (L : List (ByteArray × ByteArray)) : Prop where
  noi : NoiS Unit wr bx bm bp g n
  own : wr.ownsRow W1.heap.size 39 2 d i (massC L)
  bel : Below w.heap.size w wr
  siz : W1.heap.size ≤ wr.heap.size
theorem LwI.call {w W1 wr wr' : World} {bx bm bp : Nat} {g : Int → Nat} {n : Nat} {d : Value} {i : Nat} {L : List (ByteArray × ByteArray)} (h : LwI w W1 wr bx bm bp g n d i L) (hb : Below wr.heap.size wr wr') : LwI w W1 wr' bx bm bp g n d i L :=
  ⟨h.noi.call hb, owns_call h.own hb, bnext h.bel hb, Nat.le_trans h.siz hb.size⟩
theorem LwI.grow {w W1 wr wr' : World} {bx bm bp : Nat} {g : Int → Nat} {n : Nat} {d : Value} {i : Nat} {L : List (ByteArray × ByteArray)} (h : LwI w W1 wr bx bm bp g n d i L) (hn : NoiS Unit wr' bx bm bp g n) (hg : wr.grownBy wr' (some bm)) (h1 : w.heap.size ≤ bm) (h2 : bm < W1.heap.size) : LwI w W1 wr' bx bm bp g n d i L := by
  refine ⟨hn, h.own.kept hg ?_, ⟨hg.os.trans h.bel.os, hg.tape.trans h.bel.tape, hg.output.trans h.bel.output, Nat.le_trans h.bel.size hg.size, fun k hk => ?_⟩, Nat.le_trans h.siz hg.size⟩
  · refine .inr fun e => ?_
    have := (h.own.lt bm e).1
    omega
  · exact (hg.block k (Nat.lt_of_lt_of_le hk h.bel.size) (fun e => by injection e with e; omega)).trans (h.bel.block k hk)
structure LwT (g : Int → Nat) (n : Nat) (c : List Int) (PF : Nat → Nat → Nat → ByteArray) (CT : Int → ByteArray) (TF : Nat → Nat → ByteArray) (FT RF : Nat → ByteArray) : Prop where
  start : ∀ i v, v ≤ n → (prT g n)[v]? = some (PF i v 0)
  same : ∀ i v, PF i v (i + 1) = PF i v i
  times : ∀ (V : World) i v k, i < c.length → v ≤ n → k < c.length → k ≠ i → Lay V → Calls Tryz.prog 30 #[.string (PF i v k), .string (CT (if k < i then c.getD i 0 + v - c.getD k 0 else c.getD i 0 + v - c.getD k 0 + 1))] V fun e w' => e = .returned (.string (PF i v (k + 1))) ∧ Below V.heap.size V w'
  below : ∀ (V : World) bx bm bp (most : Int), NoiS Unit V bx bm bp g n → Lay V → Calls Tryz.prog 31 #[.pointer (some ⟨bx, 0, none⟩), .int .i64 most] V fun e w' => e = .returned (.string (CT most)) ∧ NoiS Unit w' bx bm bp g n ∧ V.grownBy w' (some bm)
  plus : ∀ (V : World) i v, i < c.length → v ≤ n → Lay V → Calls Tryz.prog 32 #[.string (TF i v), .string (PF i v c.length)] V fun e w' => e = .returned (.string (TF i (v + 1))) ∧ Below V.heap.size V w'
  zero : ∀ i, TF i 0 = ⟨#[48]⟩
  tend : ∀ i, TF i (n + 1) = FT i
  less : ∀ (V : World) i, i < c.length → Lay V → Calls Tryz.prog 34 #[.string (RF i), .string (FT i)] V fun e w' => e = .returned (.string (RF (i + 1))) ∧ Below V.heap.size V w'
  one : RF 0 = ⟨#[49]⟩
  next : ∀ i, fkAll g n c (i + 1) = fkAll g n c i ++ [(numB i, FT i)]
  all : fkW g n c = fkAll g n c c.length ++ [(lateB, RF c.length)]
theorem dy_sz (x m : Nat) : (dyB x m).size ≤ 1000000 := by
  have := outB_size (qmk false x (2 ^ m))
  show (outB _).size ≤ _
  omega
theorem lw_texts {g : Int → Nat} {n : Nat} {c : List Int} (hn : n ≤ 32) (hg : ∀ v : Int, v < 0 → g v = 0) (hz : zS n g ≤ 2 ^ n) (hm : n * c.length ≤ 1000) :
    LwT g n c (fun i v k => dyB (fkN g n (c.getD i 0) v i c k) (n * bI i k)) (fun m => dyB (cmC g n m) n) (fun i v => dyB (fkS g n c i v) (n * c.length)) (fun i => dyB (fkT g n c i) (n * c.length)) (fun i => dyB (fkR g n c i) (n * c.length)) where
  start i v hv := by
    rw [prT_get hv]
    show some (dyB (g v) n) = some (dyB (g v) (n * bI i 0))
    rw [show bI i 0 = 1 from by unfold bI; rw [if_pos (Nat.zero_le _)], Nat.mul_one]
  same i v := by
    show dyB (fkN _ _ _ _ _ _ (i + 1)) _ = dyB (fkN _ _ _ _ _ _ i) _
    rw [fkN, if_pos rfl, bI_same]
  times V i v k hi hv hk hne hL := by
    have h := fd_times V (dyB (fkN g n (c.getD i 0) v i c k) (n * bI i k)) (dyB (cmC g n (if k < i then c.getD i 0 + v - c.getD k 0 else c.getD i 0 + v - c.getD k 0 + 1)) n) (dy_sz _ _) (dy_sz _ _) hL
    rw [fk_times hg hz (by omega) hi hk hne hm] at h
    exact h
  below V bx bm bp most hN hL := fd_below V bx bm bp n g most hn hg hz hN hL
  plus V i v hi hv hL := by
    have h := fd_plus V (dyB (fkS g n c i v) (n * c.length)) (dyB (fkN g n (c.getD i 0) v i c c.length) (n * bI i c.length)) (dy_sz _ _) (dy_sz _ _) hL
    rw [fk_plus hg hz hi hv hm] at h
    exact h
  zero i := dy_zero _
  tend i := by show dyB (fkS g n c i (n + 1)) _ = _; rw [fkS_end]
  less V i hi hL := by
    have h := fd_less V (dyB (fkR g n c i) (n * c.length)) (dyB (fkT g n c i) (n * c.length)) (dy_sz _ _) (dy_sz _ _) hL
    rw [fk_less hg hz hi hm] at h
    exact h
  one := by
    show dyB (2 ^ (n * c.length) - 0) _ = _
    rw [Nat.sub_zero, dy_full]
  next i := fkAll_succ g n c i
  all := rfl
end Go.Proofs.YtckihjfkafdncaaGreatDoor
namespace Go.Proofs.YtckihjfkafdncaaGreatDoor
open Go.RowKit Go.Shelf Go.Sort
open Go.Lib (decDigits nDigits)
set_option linter.unusedVariables false
set_option linter.unusedSimpArgs false
set_option maxRecDepth 100000 in
set_option maxHeartbeats 1000000 in
theorem fd_order (p q : ByteArray × ByteArray) (w : World) : Calls Tryz.prog 38 #[.agg #[.string p.1, .string p.2], .agg #[.string q.1, .string q.2]] w fun e w' => e = .returned (.int .i64 (cmpK p q)) ∧ ∃ n os', w' = grow (w.drewN n) os' := by
  obtain ⟨p1, p2⟩ := p
  obtain ⟨q1, q2⟩ := q
  dsimp only
  have HC := fun V => hid (s_Compare V p1 q1)
  unfold cmpK keyL
  dsimp only
  obtain ⟨r, hr⟩ : ∃ r : Int, (if p1.data.toList < q1.data.toList then (-1 : Int) else if q1.data.toList < p1.data.toList then 1 else 0) = r := ⟨_, rfl⟩
  rw [hr] at HC ⊢
  clear hr
  go_enter Tryz.func38, Tryz.ntmps38
  go_wp2_with fail
  refine (HC _).out.mono ?_; rintro e w1 ⟨rfl, rfl⟩
  go_wp2_with fail
  go_ret
  exact ⟨rfl, 0, _, by rw [alloc_eq_grow, alloc_eq_grow, grow_grow]; rfl⟩
set_option maxRecDepth 100000 in
set_option maxHeartbeats 8000000 in
theorem fd_Law_ok (w : World) (v : Value) (c : List Int) (a : ByteArray) (n : Nat) (hv : Row w v (zs c)) (ha : a.size ≤ 100000) (hq : qnE c a = 0) (hn : n ≤ 32) (hm : n * c.length ≤ 256) (hL : LayB w) :
    Calls Tryz.prog 9 #[v, .string a, .int .i64 (n : Nat)] w fun e w' => (∃ u, e = .returned (.tuple #[u, .int .i64 0]) ∧ MRow w' u (sortM (fkP (gV (bN (cW a)) (bN (qD a)) false n) n c))) ∧ Below w.heap.size w w' := by
  obtain ⟨k1, k2, k3, k4⟩ := qnE_ok hq
  have hND := (gPE_ok k4).2
  have HQ := hid (fd_question w v c a hv ha hL.l)
  rw [hq] at HQ
  have HNZ := fun V hV => hid (fd_newNoise (H := Unit) V a n ha k4 hn hV)
  have hg : ∀ v : Int, v < 0 → gV (bN (cW a)) (bN (qD a)) false n v = 0 := fun v hv => gV_one_neg n hv
  have hz : zS n (gV (bN (cW a)) (bN (qD a)) false n) ≤ 2 ^ n := by have := gV_all hND false n; omega
  obtain ⟨g, hgg⟩ : ∃ g, gV (bN (cW a)) (bN (qD a)) false n = g := ⟨_, rfl⟩
  rw [hgg] at HNZ hg hz ⊢
  have hT := lw_texts (c := c) hn hg hz (by omega)
  obtain ⟨PF, hPF⟩ : ∃ PF : Nat → Nat → Nat → ByteArray, (fun (i v k : Nat) => dyB (fkN g n (c.getD i 0) (v : Int) i c k) (n * bI i k)) = PF := ⟨_, rfl⟩
  obtain ⟨CT, hCT⟩ : ∃ CT : Int → ByteArray, (fun m => dyB (cmC g n m) n) = CT := ⟨_, rfl⟩
  obtain ⟨TF, hTF⟩ : ∃ TF : Nat → Nat → ByteArray, (fun i v => dyB (fkS g n c i v) (n * c.length)) = TF := ⟨_, rfl⟩
  obtain ⟨FT, hFT⟩ : ∃ FT : Nat → ByteArray, (fun i => dyB (fkT g n c i) (n * c.length)) = FT := ⟨_, rfl⟩
  obtain ⟨RF, hRF⟩ : ∃ RF : Nat → ByteArray, (fun i => dyB (fkR g n c i) (n * c.length)) = RF := ⟨_, rfl⟩
  rw [hPF, hCT, hTF, hFT, hRF] at hT
  clear hPF hCT hTF hFT hRF
  have HT := hid hT
  have HND := hid (fkW_nd g n c)
  have HFL := hid (fun i => fkAll_length g n c i)
  have HFZ : Hid (fkAll g n c 0 = []) := rfl
  have HPP : Hid (fkP g n c = (fkW g n c).filter fun x => !(!notZ x)) := by
    show fkP g n c = _
    unfold fkP
    refine List.filter_congr fun x _ => ?_
    rw [Bool.not_not]
  have HPN := hid (fkP_nd g n c)
  obtain ⟨FA, hFA⟩ : ∃ FA, fkAll g n c = FA := ⟨_, rfl⟩
  obtain ⟨FW, hFW⟩ : ∃ FW, fkW g n c = FW := ⟨_, rfl⟩
  obtain ⟨FP, hFP⟩ : ∃ FP, fkP g n c = FP := ⟨_, rfl⟩
  have HNX := hid hT.next
  have HAL := hid hT.all
  rw [hFA] at HNX HAL HFL HFZ
  rw [hFW] at HAL HND HPP
  rw [hFP] at HPP HPN ⊢
  have HV := hid hv; have HL := hid hL; have HN := hid hn; have HR := hid k3
  obtain ⟨s, cp, rfl, q1, q2, q3⟩ := hv.openZ
  obtain ⟨L, hLL⟩ : ∃ L, c.length = L := ⟨_, rfl⟩
  have HLL := hid hLL
  rw [hLL] at hm k1 k2 q1 HV HQ HAL ⊢
  have Q3 := hid q3
  have s1 : decide ((n : Int) < 0) = false := by simp
  have s2 : decide ((32 : Int) < (n : Int)) = false := by simp; omega
  obtain ⟨M, hM⟩ : ∃ M : Int, (n : Int) * (L : Int) = M := ⟨_, rfl⟩
  have hM2 : M ≤ 256 := by
    rw [← hM]
    have : ((n * L : Nat) : Int) ≤ 256 := by omega
    rwa [Int.natCast_mul] at this
  have hM0 : 0 ≤ M := by rw [← hM]; exact Int.mul_nonneg (by omega) (by omega)
  have wm : IntKind.i64.wrap ((n : Int) * (L : Int)) = M := by rw [hM, IntWalk.i64_in _ ⟨by omega, by omega⟩]
  have s3 : decide (256 < M) = false := by simp; omega
  obtain ⟨i0, hi, hz0, hz1, hz2⟩ := info_parts info_mass
  have HK1 := hid k1; have HK2 := hid k2
  clear hv ha hq hn hL hND hg hz hgg hT hFA hFW hFP k3 k4 hLL q3 hM2 hM0 hM hm
  go_enter Tryz.func9, Tryz.ntmps9
  go_wp2_with fail
  refine HQ.out.mono ?_; rintro e w0 ⟨rfl, hb0⟩
  have y0 := hid hb0; clear hb0 HQ
  go_wp2_with fail
  refine (HNZ _ (HL.out.call y0.out)).out.mono ?_; rintro e W1 ⟨⟨bx, bm, bp, rfl, hbm, hnoi⟩, hb1⟩
  have y1 := hid (bnext y0.out hb1)
  have HBM : Hid (w.heap.size ≤ bm ∧ bm < W1.heap.size) := ⟨Nat.le_trans y0.out.size hbm, by
    rcases hnoi.m with h | ⟨_, _, h, -⟩
    · exact h.lt
    · exact h.lt⟩
  have I0 : Hid (LwI w W1 W1 bx bm bp g n (.slice none 0 0) 0 (FA 0)) := ⟨hnoi, by rw [HFZ.out]; exact ⟨rfl, .inl ⟨rfl, rfl⟩⟩, y1.out, Nat.le_refl _⟩
  clear hb1 hbm hnoi HNZ s1 s2 s3 wm
  go_wp2_with fail
  go_loopw [10, 11, 12, 13, 14, 15, 16, 17, 43] (fun s10 s11 s12 s13 s14 s15 s16 s17 s43 wr => ∃ i : Nat, s43 = .int .i64 (i : Nat) ∧ s11 = .string (RF i) ∧ i ≤ L ∧ Hid (LwI w W1 wr bx bm bp g n s10 i (FA i))) (fun s10 s11 s12 s13 s14 s15 s16 s17 s43 wr => L - (intOf s43).toNat)
  case atStart => exact ⟨0, rfl, by rw [HT.out.one], Nat.zero_le _, I0⟩
  case round =>
    obtain ⟨i, rfl, rfl, hi', hI⟩ := hrel
    obtain ⟨ad, cd, rfl⟩ := owns_ex hI.out.own
    by_cases hlt : i < L
    · have q0 : decide ((i : Int) < (L : Int)) = true := by simp; omega
      have d0 : decide (i < L) = true := by simp; omega
      have wi : IntKind.i64.wrap ((i : Int) + 1) = ((i + 1 : Nat) : Int) := by have := HK2.out; rw [IntWalk.i64_in _ ⟨by omega, by omega⟩]; omega
      have IL := hid hlt
      obtain ⟨ci, hci⟩ : ∃ x, c[i]? = some x := ⟨_, List.getElem?_eq_getElem (by rw [HLL.out]; exact hlt)⟩
      have hcd : c.getD i 0 = ci := by rw [List.getD_eq_getElem?_getD, hci]; rfl
      obtain ⟨gc, oc, rfl, hgc, hcc⟩ := Q3.out i ci hci
      have HCC := hid hcc; have HGC := hid hgc; have HCD := hid hcd
      have hrc := HR.out ci (List.mem_of_getElem? hci)
      have HRC := hid hrc
      have e0 : (0 : Int) ≤ (i : Int) := by omega
      have e1 : (i : Int) < (L : Int) := by omega
      have r0 := hI.out.noi.x.cell 0
      simp at r0
      clear hci hcc hgc hcd hrc hi' hlt
      have I1 : Hid (LwI w W1 wr bx bm bp g n (.slice ad i cd) i (FA i)) := hI
      have w31 : ((n : Nat) : Int) ≤ 32 := by have := HN.out; omega
      go_wp2_with fail
      go_loopw [13, 14, 15, 16, 17, 51] (fun s13 s14 s15 s16 s17 s51 wq => ∃ v : Nat, s51 = .int .i64 (v : Nat) ∧ s13 = .string (TF i v) ∧ v ≤ n + 1 ∧ Hid (LwI w W1 wq bx bm bp g n (.slice ad i cd) i (FA i))) (fun s13 s14 s15 s16 s17 s51 wq => n + 1 - (intOf s51).toNat)
      case atStart => exact ⟨0, rfl, by rw [HT.out.zero], Nat.zero_le _, I1⟩
      case round =>
        clear I1 hI r0
        obtain ⟨v, rfl, rfl, hv', hI⟩ := hrel
        by_cases hlt : v < n + 1
        · have q1 : decide ((v : Int) < ((n + 1 : Nat) : Int)) = true := by simp; omega
          have q1' : decide ((v : Int) < (n : Int) + 1) = true := by simp; omega
          have d1 : decide (v < n + 1) = true := by simp; omega
          have wv : IntKind.i64.wrap ((v : Int) + 1) = ((v + 1 : Nat) : Int) := by rw [IntWalk.i64_in _ ⟨by omega, by omega⟩]; omega
          have VL := hid hlt
          have hst := HT.out.start i v (by omega)
          have r1 : wr.cell? ⟨bp, v, none⟩ = some (.string (PF i v 0)) := by
            rw [hI.out.noi.p.cell, List.getElem?_toArray]
            exact strs_get hst
          have f0 : (0 : Int) ≤ (v : Int) := by omega
          have f1 : (v : Int) < (n : Int) + 1 := by omega
          have f2 : (v : Int) ≤ 32 := by omega
          have HSAME := hid (HT.out.same i v)
          have HTIM := hid (fun (V : World) (k : Nat) (hk : k < L) (hne : k ≠ i) (hV : Lay V) => HT.out.times V i v k (by rw [HLL.out]; exact IL.out) (by have := VL.out; omega) (by rw [HLL.out]; exact hk) hne hV)
          have HPLU := hid (fun (V : World) (hV : Lay V) => HT.out.plus V i v (by rw [HLL.out]; exact IL.out) (by have := VL.out; omega) hV)
          rw [HCD.out] at HTIM
          rw [HLL.out] at HPLU
          obtain ⟨P, hP⟩ : ∃ P, PF i v = P := ⟨_, rfl⟩
          obtain ⟨T0, hT0⟩ : ∃ P, TF i v = P := ⟨_, rfl⟩
          obtain ⟨T1, hT1⟩ : ∃ P, TF i (v + 1) = P := ⟨_, rfl⟩
          rw [hP] at HSAME HTIM HPLU r1
          rw [hT0, hT1] at HPLU
          have HT0 := hid hT0; have HT1 := hid hT1
          rw [hT0]
          have wcv : IntKind.i64.wrap (ci + (v : Int)) = ci + (v : Int) := by have := HRC.out; rw [IntWalk.i64_in _ ⟨by omega, by omega⟩]
          clear hst hP hT0 hT1 hv' hlt
          go_wp2_with fail
          go_loopw [15, 16, 17, 58] (fun s15 s16 s17 s58 wq => ∃ k : Nat, s58 = .int .i64 (k : Nat) ∧ s15 = .string (P k) ∧ k ≤ L ∧ Hid (LwI w W1 wq bx bm bp g n (.slice ad i cd) i (FA i))) (fun s15 s16 s17 s58 wq => L - (intOf s58).toNat)
          case atStart => exact ⟨0, rfl, rfl, Nat.zero_le _, hI⟩
          case round =>
            clear hI r1
            obtain ⟨k, rfl, rfl, hk', hI⟩ := hrel
            by_cases hlt : k < L
            · have q2 : decide ((k : Int) < (L : Int)) = true := by simp; omega
              have d2 : decide (k < L) = true := by simp; omega
              have wk : IntKind.i64.wrap ((k : Int) + 1) = ((k + 1 : Nat) : Int) := by have := HK2.out; rw [IntWalk.i64_in _ ⟨by omega, by omega⟩]; omega
              have KL := hid hlt
              obtain ⟨ck, hck⟩ : ∃ x, c[k]? = some x := ⟨_, List.getElem?_eq_getElem (by rw [HLL.out]; exact hlt)⟩
              have hkd : c.getD k 0 = ck := by rw [List.getD_eq_getElem?_getD, hck]; rfl
              obtain ⟨g2, o2, e2, -, hc2⟩ := Q3.out k ck hck
              simp only [Option.some.injEq, Addr.mk.injEq, and_true] at e2
              obtain ⟨rfl, rfl⟩ := e2
              have hrk := HR.out ck (List.mem_of_getElem? hck)
              have c1 := (hI.out.bel.cell (p := ⟨gc, oc + i, none⟩) HGC.out).trans HCC.out
              have c2 := (hI.out.bel.cell (p := ⟨gc, oc + k, none⟩) HGC.out).trans hc2
              obtain ⟨G, hG⟩ : ∃ G, ci + (v : Int) - ck = G := ⟨_, rfl⟩
              have hGb : -9000000000000000 ≤ G ∧ G ≤ 9000000000000000 := by have := HRC.out; omega
              have wg : IntKind.i64.wrap (ci + (v : Int) - ck) = G := by rw [hG, IntWalk.i64_in _ ⟨by omega, by omega⟩]
              have wg1 : IntKind.i64.wrap (G + 1) = G + 1 := by rw [IntWalk.i64_in _ ⟨by omega, by omega⟩]
              have g0 : (0 : Int) ≤ (k : Int) := by omega
              have g1 : (k : Int) < (L : Int) := by omega
              have HTK := fun (hne : k ≠ i) (V : World) (hV : Lay V) => HTIM.out V k KL.out hne hV
              rw [hkd, hG] at HTK
              clear hck hkd hc2 hrk hG hGb hk' hlt
              rcases Nat.lt_trichotomy k i with hki | hki | hki
              · have p1 : decide ((k : Int) < (i : Int)) = true := by simp; omega
                have p2 : decide (k < i) = true := by simp; omega
                have HTJ := fun V hV => hid (HTK (Nat.ne_of_lt hki) V hV)
                rw [if_pos hki] at HTJ
                have HKI := hid hki
                clear HTK hki
                go_wp2_with fail
                go_quiet (fail)
                go_wp2_with fail
                have I2 := hid (hI.out.call (below_drewN (Below.refl _ _) nq))
                refine (HT.out.below _ _ _ _ _ I2.out.noi (HL.out.call I2.out.bel).l).mono ?_; rintro e w3 ⟨rfl, hn3, hg3⟩
                have I3 := hid (I2.out.grow hn3 hg3 HBM.out.1 HBM.out.2)
                clear hn3 hg3 I2 c1 c2
                go_wp2_with fail
                refine (HTJ _ (HL.out.call I3.out.bel).l).out.mono ?_; rintro e w4 ⟨rfl, hb4⟩
                have I4 := hid (I3.out.call hb4)
                clear hb4 I3
                go_wp2_with fail
                go_roundw
                case rel => exact ⟨k + 1, by go_num, rfl, KL.out, I4⟩
                case measure => simp [intOf] <;> (have := KL.out; omega)
              · subst hki
                have p1 : decide ((k : Int) < (k : Int)) = false := by simp
                clear HTK
                go_wp2_with fail
                go_quiet (fail)
                go_wp2_with fail
                have I2 := hid (hI.out.call (below_drewN (Below.refl _ _) nq))
                go_roundw
                case rel => exact ⟨k + 1, by go_num, by rw [HSAME.out], KL.out, I2⟩
                case measure => simp [intOf] <;> (have := KL.out; omega)
              · have p1 : decide ((k : Int) < (i : Int)) = false := by simp; omega
                have p2 : decide (k < i) = false := by simp; omega
                have p3 : decide ((i : Int) < (k : Int)) = true := by simp; omega
                have p4 : decide (i < k) = true := by simp; omega
                have HTJ := fun V hV => hid (HTK (Nat.ne_of_gt hki) V hV)
                rw [if_neg (by omega)] at HTJ
                have HKI := hid hki
                clear HTK hki
                go_wp2_with fail
                go_quiet (fail)
                go_wp2_with fail
                have I2 := hid (hI.out.call (below_drewN (Below.refl _ _) nq))
                refine (HT.out.below _ _ _ _ _ I2.out.noi (HL.out.call I2.out.bel).l).mono ?_; rintro e w3 ⟨rfl, hn3, hg3⟩
                have I3 := hid (I2.out.grow hn3 hg3 HBM.out.1 HBM.out.2)
                clear hn3 hg3 I2 c1 c2
                go_wp2_with fail
                refine (HTJ _ (HL.out.call I3.out.bel).l).out.mono ?_; rintro e w4 ⟨rfl, hb4⟩
                have I4 := hid (I3.out.call hb4)
                clear hb4 I3
                go_wp2_with fail
                go_roundw
                case rel => exact ⟨k + 1, by go_num, rfl, KL.out, I4⟩
                case measure => simp [intOf] <;> (have := KL.out; omega)
            · obtain rfl : k = L := by omega
              have q2 : decide ((k : Int) < (k : Int)) = false := by simp
              clear hlt hk'
              go_wp2_with fail
              refine (HPLU.out _ (HL.out.call hI.out.bel).l).mono ?_; rintro e w4 ⟨rfl, hb4⟩
              have I4 := hid (hI.out.call hb4)
              clear hb4
              go_wp2_with fail
              go_roundw
              case rel => exact ⟨v + 1, by go_num, by rw [HT1.out], VL.out, I4⟩
              case measure => simp [intOf] <;> (have := VL.out; omega)
        · obtain rfl : v = n + 1 := by omega
          have q1 : decide ((n : Int) + 1 < (n : Int) + 1) = false := by simp
          have PI := fun V hV => hid (s_Itoa V i (by have := HK2.out; have := IL.out; omega) hV)
          have PLS := fun V hV => hid (HT.out.less V i (by rw [HLL.out]; exact IL.out) hV)
          have HNXi := hid (HNX.out i)
          have hIL : i < 256 := by have := HK2.out; have := IL.out; omega
          rw [HT.out.tend]
          obtain ⟨I, hIi⟩ : ∃ s, numB i = s := ⟨_, rfl⟩
          obtain ⟨F, hF⟩ : ∃ s, FT i = s := ⟨_, rfl⟩
          rw [hIi] at PI HNXi
          rw [hF] at PLS HNXi ⊢
          have HIL := hid hIL
          clear hlt hv' hIi hF hIL
          go_wp2_with fail
          refine (PI _ (HL.out.call hI.out.bel).l).out.mono ?_; rintro e w3 ⟨rfl, hb3⟩
          have I3 := hid (hI.out.call hb3)
          clear hb3
          have b3 := I3.out.siz
          have b4 := I3.out.bel.size
          go_wp2_with (at_builtin; refine wpList_append_own _ rfl _ _ 26 rfl W1.heap.size 39 i0 (.agg #[.string ⟨#[]⟩, .string ⟨#[]⟩]) 2 32 Tryz.underlying26 hi hz0 hz1 hz2 rfl (by decide) _ i _ rfl (I3.out.own.alloc _) ⟨w3.heap.size, 0, none⟩ 1 1 [.string I, .string F] rfl rfl (cell_two_new w3 (.string I) (.string F) 39) (by simp [Value.oneCell']) (by have := HIL.out; unfold maxLen; omega) (by omega) (by simp; omega) ?_; intro v' w5 hown5 hgrow5 _)
          have A3 : Below w3.heap.size w3 (w3.alloc (.cells #[.string I, .string F] 39)) := (Below.refl _ _).alloc (Nat.le_refl _) _
          have I4 := I3.out.call A3
          have hown : W1.heap.size ≤ W1.heap.size := Nat.le_refl _
          have hrow : ∀ k, (Value.slice ad i cd).ownBlock = some k → W1.heap.size ≤ k := fun k e => (I3.out.own.lt k e).1
          have I5 : Hid (LwI w W1 w5 bx bm bp g n v' (i + 1) (FA (i + 1))) := by
            refine ⟨?_, ?_, ?_, ?_⟩
            · exact I4.noi.grown hgrow5 (own_block I4.own)
            · rw [HNXi.out, massC_append]; exact hown5
            · refine I4.bel.trans ⟨hgrow5.os, hgrow5.tape, hgrow5.output, hgrow5.size, fun k hk => hgrow5.block k (by have := I4.bel.size; omega) (fun e => ?_)⟩
              have := hrow k e.symm
              have := y1.out.size
              omega
            · exact Nat.le_trans I4.siz hgrow5.size
          clear hown5 hgrow5 I3 A3 I4 hown hrow b3 b4
          obtain ⟨ad5, cd5, rfl⟩ := owns_ex I5.out.own
          go_wp2_with fail
          refine (PLS _ (HL.out.call I5.out.bel).l).out.mono ?_; rintro e w6 ⟨rfl, hb6⟩
          have I6 := hid (I5.out.call hb6)
          clear hb6 I5
          go_wp2_with fail
          go_roundw
          case rel => exact ⟨i + 1, by go_num, rfl, IL.out, I6⟩
          case measure => simp [intOf] <;> (have := IL.out; omega)
    · obtain rfl : i = L := by omega
      have q1 : decide ((i : Int) < (i : Int)) = false := by simp
      clear hlt hi'
      have b3 := hI.out.siz
      have b4 := hI.out.bel.size
      have hIL := HK2.out
      obtain ⟨F, hF⟩ : ∃ s, RF i = s := ⟨_, rfl⟩
      rw [hF] at HAL ⊢
      clear hF
      go_wp2_with (at_builtin; refine wpList_append_own _ rfl _ _ 26 rfl W1.heap.size 39 i0 (.agg #[.string ⟨#[]⟩, .string ⟨#[]⟩]) 2 32 Tryz.underlying26 hi hz0 hz1 hz2 rfl (by decide) _ i _ rfl (hI.out.own.alloc _) ⟨wr.heap.size, 0, none⟩ 1 1 [.string ⟨#[108, 97, 116, 101]⟩, .string F] rfl rfl (cell_two_new wr (.string ⟨#[108, 97, 116, 101]⟩) (.string F) 39) (by simp [Value.oneCell']) (by unfold maxLen; omega) (by omega) (by simp; omega) ?_; intro v' w5 hown5 hgrow5 _)
      have A3 : Below wr.heap.size wr (wr.alloc (.cells #[.string ⟨#[108, 97, 116, 101]⟩, .string F] 39)) := (Below.refl _ _).alloc (Nat.le_refl _) _
      have I4 := hI.out.call A3
      have hrow : ∀ k, (Value.slice ad i cd).ownBlock = some k → W1.heap.size ≤ k := fun k e => (hI.out.own.lt k e).1
      have B5 : Hid (Below w.heap.size w w5) := by
        refine I4.bel.trans ⟨hgrow5.os, hgrow5.tape, hgrow5.output, hgrow5.size, fun k hk => hgrow5.block k (by have := I4.bel.size; omega) (fun e => ?_)⟩
        have := hrow k e.symm
        have := y1.out.size
        omega
      have S5 : Hid (W1.heap.size ≤ w5.heap.size) := Nat.le_trans I4.siz hgrow5.size
      have O5 : w5.ownsRow W1.heap.size 39 2 v' (i + 1) (massC FW) := by rw [HAL.out, massC_append]; exact hown5
      obtain ⟨gd, cap, rfl, hgB, hglt⟩ := O5.form (Nat.succ_pos i)
      have hFWl : FW.length = i + 1 := by have := O5.1; rw [massC_length] at this; omega
      have PD := hid (s_DelM w5 36 (fun x => !notZ x) gd cap W1.heap.size (i + 1) FW O5 hFWl (by omega) S5.out (enters_of Tryz.func36 (by kernel_rfl) rfl) (fun W x => fd_isZ W x))
      rw [← HPP.out] at PD
      have HFPl : Hid (FP.length ≤ i + 1) := by
        show _ ≤ _
        rw [HPP.out, ← hFWl]
        exact List.length_filter_le _ _
      have Y1 := hid (y1.out.size)
      clear hown5 hgrow5 A3 I4 hrow b3 b4 hI O5 hgB hglt hFWl
      go_wp2_with fail
      refine PD.out.mono ?_; rintro e w6 ⟨⟨m, hm, rfl, O6⟩, hb6⟩
      have B6 := hid (B5.out.trans (hb6.mono Y1.out))
      have S6 := hid (Nat.le_trans S5.out hb6.size)
      rcases O6.2 with ⟨e1, _⟩ | ⟨g', cap', cur, e1, hgb, hgh, h1, h2, h3, h4⟩
      · simp at e1
      simp only [Value.slice.injEq, Option.some.injEq, Addr.mk.injEq, and_true, true_and] at e1
      obtain ⟨rfl, rfl⟩ := e1
      have hdl := HFPl.out
      have hSM := s_SortM 38 gd cap W1.heap.size FP.toArray w6 cur hgb hgh (by simp; omega) h2 h3 (by simp; rw [← hm]; exact h4) (by simp; omega) (by simpa using HPN.out) (enters_of Tryz.func38 (by kernel_rfl) rfl) (fun x y W => fd_order x y W)
      simp only [List.size_toArray] at hSM
      rw [← hm] at hSM
      have HSM := hid hSM
      clear hSM h1 h2 h3 h4 hgh hdl O6 hb6 PD hm
      go_wp2_with fail
      refine HSM.out.mono ?_; rintro e w8 ⟨rfl, ho8, hb8⟩
      have B8 := hid (B6.out.trans (hb8.mono Y1.out))
      have M8 := hid (MRow.of_owns ho8)
      clear ho8 hb8
      go_wp2_with fail
      go_ret2
      exact ⟨⟨_, rfl, M8.out⟩, B8.out⟩
end Go.Proofs.YtckihjfkafdncaaGreatDoor
namespace Go.Proofs.YtckihjfkafdncaaGreatDoor
open Go.RowKit
set_option linter.unusedVariables false
set_option linter.unusedSimpArgs false
theorem sgQ_bd (q : Rat) : -1 ≤ sgQ q ∧ sgQ q ≤ 1 := by
  unfold sgQ
  split
  · omega
  · split <;> omega
theorem ordN_bd (a b : Nat) : -1 ≤ ordN a b ∧ ordN a b ≤ 1 := by
  unfold ordN
  split
  · omega
  · split <;> omega
set_option maxRecDepth 100000 in
set_option maxHeartbeats 4000000 in
theorem f_Cmp (w : World) (v u : Value) (p q : Rat) (hp : IsQ .u64 w v p) (hq : IsQ .u64 w u q)
    (h1 : (limbs p.num.natAbs).length ≤ 100000) (h2 : (limbs p.den).length ≤ 100000) (h3 : (limbs q.num.natAbs).length ≤ 100000) (h4 : (limbs q.den).length ≤ 100000) :
    Calls Tryz.prog 239 #[v, u] w fun e w' => e = .returned (.int .i64 (cmF p q)) ∧ Below w.heap.size w w' := by
  have PS1 := fun V v h => hid (f_Sign V v p h)
  have PS2 := fun V v h => hid (f_Sign V v q h)
  have PM1 := fun V v u hv hu => hid (l_Mul V v u p.num.natAbs q.den hv hu (Nat.le_trans h1 (by omega)) (Nat.le_trans h4 (by omega)))
  have PM2 := fun V v u hv hu => hid (l_Mul V v u q.num.natAbs p.den hv hu (Nat.le_trans h3 (by omega)) (Nat.le_trans h2 (by omega)))
  have lx := len_mul h1 h4
  have PC := fun V v u hv hu => hid (l_Cmp V v u (p.num.natAbs * q.den) (q.num.natAbs * p.den) hv hu (Nat.le_trans lx (by omega)))
  have bp := sgQ_bd p
  have bq := sgQ_bd q
  have bo := ordN_bd (p.num.natAbs * q.den) (q.num.natAbs * p.den)
  obtain ⟨Z, hZ⟩ : ∃ z, cmF p q = z := ⟨_, rfl⟩
  rw [hZ]
  unfold cmF at hZ
  obtain ⟨s1, hs1⟩ : ∃ z, sgQ p = z := ⟨_, rfl⟩
  obtain ⟨s2, hs2⟩ : ∃ z, sgQ q = z := ⟨_, rfl⟩
  obtain ⟨oc, hoc⟩ : ∃ z, ordN (p.num.natAbs * q.den) (q.num.natAbs * p.den) = z := ⟨_, rfl⟩
  rw [hs1] at PS1 bp hZ
  rw [hs2] at PS2 bq hZ
  rw [hoc] at PC bo hZ
  have HZ := hid hZ
  have HP := hid hp; have HQ := hid hq
  obtain ⟨N1, D1, rfl, hn1, hd1⟩ := hp.ex
  obtain ⟨N2, D2, rfl, hn2, hd2⟩ := hq.ex
  have HN1 := hid hn1; have HD1 := hid hd1; have HN2 := hid hn2; have HD2 := hid hd2
  obtain ⟨a1, c1, rfl, _⟩ := hn1.openI
  obtain ⟨a2, c2, rfl, _⟩ := hd1.openI
  obtain ⟨a3, c3, rfl, _⟩ := hn2.openI
  obtain ⟨a4, c4, rfl, _⟩ := hd2.openI
  obtain ⟨k1, hk1⟩ : ∃ k, (limbs p.num.natAbs).length = k := ⟨_, rfl⟩
  obtain ⟨k2, hk2⟩ : ∃ k, (limbs p.den).length = k := ⟨_, rfl⟩
  obtain ⟨k3, hk3⟩ : ∃ k, (limbs q.num.natAbs).length = k := ⟨_, rfl⟩
  obtain ⟨k4, hk4⟩ : ∃ k, (limbs q.den).length = k := ⟨_, rfl⟩
  obtain ⟨m1, hm1⟩ : ∃ m, decide (p.num < 0) = m := ⟨_, rfl⟩
  obtain ⟨m2, hm2⟩ : ∃ m, decide (q.num < 0) = m := ⟨_, rfl⟩
  rw [hk1] at HN1; rw [hk2] at HD1; rw [hk3] at HN2; rw [hk4] at HD2
  rw [hk1, hk2, hm1] at HP ⊢
  rw [hk3, hk4, hm2] at HQ ⊢
  have HM1 : Hid ((p.num < 0) ↔ m1 = true) := by rw [← hm1]; simp [Hid]
  clear hZ hk1 hk2 hk3 hk4 hm1 hm2 hn1 hn2 hd1 hd2 hp hq h1 h2 h3 h4 lx hs1 hs2 hoc
  have W12 : IntKind.i64.wrap (s1 - s2) = s1 - s2 := IntWalk.i64_in _ ⟨by omega, by omega⟩
  have WO : IntKind.i64.wrap (-oc) = -oc := IntWalk.i64_in _ ⟨by omega, by omega⟩
  clear bp bq bo
  go_enter Tryz.func239, Tryz.ntmps239
  go_wp2_with fail
  obtain ⟨W, hW⟩ : ∃ W, (w.alloc (.cells #[.bool m1, .slice a1 k1 c1, .slice a2 k2 c2] 133)).alloc (.cells #[.bool m2, .slice a3 k3 c3, .slice a4 k4 c4] 133) = W := ⟨_, rfl⟩
  have Y0 : Blk W w.heap.size #[.bool m1, .slice a1 k1 c1, .slice a2 k2 c2] 133 := by rw [← hW]; exact (Blk.new w _ _).alloc _
  have Y1 : Blk W (w.heap.size + 1) #[.bool m2, .slice a3 k3 c3, .slice a4 k4 c4] 133 := by rw [← hW]; exact Blk.made _ _ _ (by simp)
  have y0 : Below w.heap.size w W := by rw [← hW]; exact ((Below.refl _ _).alloc (Nat.le_refl _) _).alloc (by simp) _
  rw [hW]
  have KK : Hid (∀ w', Below W.heap.size W w' → w'.cell? ⟨w.heap.size, 0, none⟩ = some (.bool m1) ∧ w'.cell? ⟨w.heap.size, 1, none⟩ = some (.slice a1 k1 c1) ∧ w'.cell? ⟨w.heap.size, 2, none⟩ = some (.slice a2 k2 c2) ∧ w'.cell? ⟨w.heap.size + 1, 0, none⟩ = some (.bool m2) ∧ w'.cell? ⟨w.heap.size + 1, 1, none⟩ = some (.slice a3 k3 c3) ∧ w'.cell? ⟨w.heap.size + 1, 2, none⟩ = some (.slice a4 k4 c4)) := fun w' hb =>
    ⟨(Y0.call hb).cell 0, (Y0.call hb).cell 1, (Y0.call hb).cell 2, (Y1.call hb).cell 0, (Y1.call hb).cell 1, (Y1.call hb).cell 2⟩
  have Q1 := hid (HP.out.call y0); have Q2 := hid (HQ.out.call y0)
  have N1' := hid (HN1.out.call y0); have D1' := hid (HD1.out.call y0); have N2' := hid (HN2.out.call y0); have D2' := hid (HD2.out.call y0)
  have HY := hid y0
  clear Y0 Y1 y0 hW HN1 HD1 HN2 HD2 HP HQ
  refine held_plain [0, 2] 4 (fun w' => w'.cell? ⟨w.heap.size, 0, none⟩ = some (.bool m1) ∧ w'.cell? ⟨w.heap.size, 1, none⟩ = some (.slice a1 k1 c1) ∧ w'.cell? ⟨w.heap.size, 2, none⟩ = some (.slice a2 k2 c2) ∧ w'.cell? ⟨w.heap.size + 1, 0, none⟩ = some (.bool m2) ∧ w'.cell? ⟨w.heap.size + 1, 1, none⟩ = some (.slice a3 k3 c3) ∧ w'.cell? ⟨w.heap.size + 1, 2, none⟩ = some (.slice a4 k4 c4)) (by kernel_rfl) (by kernel_rfl) (by kernel_rfl) (by kernel_rfl) (KK.out _ (Below.refl _ _).drew) ?_
  iterate 2
    refine ⟨_, rfl, ?_⟩
    apply Exists.intro
    refine ⟨.inl ⟨by rfl, ?_⟩, ?_⟩
    · (intro W' hW'; obtain ⟨q1, q2, q3, q4, q5, q6⟩ := hW'; go_simp; try (with_reducible rfl))
    (dsimp only [Act.put]; try simp only [List.setIfInBounds_toArray, List.set_cons_zero, List.set_cons_succ])
  refine held_one (i := 1) (by kernel_rfl) (by rfl) (by rfl) ?_
  go_wp2_with fail
  refine (PS1 _ _ (Q1.out.call (Below.refl _ _).drew)).out.mono ?_; rintro e w1 ⟨rfl, hb1⟩
  have x1 := hid (show Below W.heap.size W w1 from (Below.refl _ _).drew.trans hb1)
  clear hb1
  go_wp2_with fail
  refine ⟨KK.out _ x1.out, ?_⟩
  refine held_one (i := 3) (by kernel_rfl) (by rfl) (by rfl) ?_
  go_wp2_with fail
  refine (PS2 _ _ (Q2.out.call x1.out)).out.mono ?_; rintro e w2 ⟨rfl, hb2⟩
  have x2 := hid (bnext x1.out hb2)
  clear hb2
  go_wp2_with fail
  refine ⟨KK.out _ x2.out, ?_⟩
  refine held_more (is := [4, 5]) (g := 0) (by kernel_rfl) rfl (KK.out _ x2.out) (by kernel_rfl) ?_
  iterate 2
    refine ⟨_, rfl, ?_⟩
    apply Exists.intro
    refine ⟨.inl ⟨by rfl, ?_⟩, ?_⟩
    · (intro W' hW'; obtain ⟨q1, q2, q3, q4, q5, q6⟩ := hW'; go_simp; try (with_reducible rfl))
    (dsimp only [Act.put]; try simp only [List.setIfInBounds_toArray, List.set_cons_zero, List.set_cons_succ])
  refine wpAnyH_done (by kernel_rfl) ?_ _
  simp only [Only]
  by_cases hne : s1 = s2
  · subst hne
    have t0 : (s1 != s1) = false := by simp
    go_wp2_with fail
    refine held_plain [0, 1, 2, 3, 5, 6, 7, 8] 4 (fun w' => w'.cell? ⟨w.heap.size, 0, none⟩ = some (.bool m1) ∧ w'.cell? ⟨w.heap.size, 1, none⟩ = some (.slice a1 k1 c1) ∧ w'.cell? ⟨w.heap.size, 2, none⟩ = some (.slice a2 k2 c2) ∧ w'.cell? ⟨w.heap.size + 1, 0, none⟩ = some (.bool m2) ∧ w'.cell? ⟨w.heap.size + 1, 1, none⟩ = some (.slice a3 k3 c3) ∧ w'.cell? ⟨w.heap.size + 1, 2, none⟩ = some (.slice a4 k4 c4)) (by kernel_rfl) (by kernel_rfl) (by kernel_rfl) (by kernel_rfl) (KK.out _ x2.out.drew) ?_
    iterate 8
      refine ⟨_, rfl, ?_⟩
      apply Exists.intro
      refine ⟨.inl ⟨by rfl, ?_⟩, ?_⟩
      · (intro W' hW'; obtain ⟨q1, q2, q3, q4, q5, q6⟩ := hW'; go_simp; try (with_reducible rfl))
      (dsimp only [Act.put]; try simp only [List.setIfInBounds_toArray, List.set_cons_zero, List.set_cons_succ])
    refine held_one (i := 4) (by kernel_rfl) (by rfl) (by rfl) ?_
    go_wp2_with fail
    refine (PM1 _ _ _ (N1'.out.call x2.out.drew) (D2'.out.call x2.out.drew)).out.mono ?_; rintro e w3 ⟨⟨v3, rfl, hv3⟩, hb3⟩
    have x3 := hid (show Below W.heap.size W w3 from bnext x2.out.drew hb3)
    have V3 := hid hv3
    clear hb3 hv3
    go_wp2_with fail
    refine ⟨KK.out _ x3.out, ?_⟩
    refine held_one (i := 9) (by kernel_rfl) (by rfl) (by rfl) ?_
    go_wp2_with fail
    refine (PM2 _ _ _ (N2'.out.call x3.out) (D1'.out.call x3.out)).out.mono ?_; rintro e w4 ⟨⟨v4, rfl, hv4⟩, hb4⟩
    have x4 := hid (bnext x3.out hb4)
    have V4 := hid hv4
    have V34 := hid (V3.out.call hb4)
    clear hb4 hv4
    go_wp2_with fail
    refine ⟨KK.out _ x4.out, ?_⟩
    refine held_one (i := 10) (by kernel_rfl) (by rfl) (by rfl) ?_
    go_wp2_with fail
    refine (PC _ _ _ V34.out V4.out).out.mono ?_; rintro e w5 ⟨rfl, hb5⟩
    have x5 := hid (bnext x4.out hb5)
    clear hb5
    go_wp2_with fail
    refine ⟨KK.out _ x5.out, ?_⟩
    refine held_more (is := [11]) (g := 0) (by kernel_rfl) rfl (KK.out _ x5.out) (by kernel_rfl) ?_
    iterate 1
      refine ⟨_, rfl, ?_⟩
      apply Exists.intro
      refine ⟨.inl ⟨by rfl, ?_⟩, ?_⟩
      · (intro W' hW'; obtain ⟨q1, q2, q3, q4, q5, q6⟩ := hW'; go_simp; try (with_reducible rfl))
      (dsimp only [Act.put]; try simp only [List.setIfInBounds_toArray, List.set_cons_zero, List.set_cons_succ])
    refine wpAnyH_done (by kernel_rfl) ?_ _
    simp only [Only]
    obtain ⟨e0, e1, e2, e3, e4, e5⟩ := KK.out _ x5.out
    have yy := hid (bnext HY.out x5.out)
    cases m1
    · go_wp2_with fail
      go_ret
      exact ⟨by rw [← HZ.out, if_neg (fun h => h rfl), if_neg (fun h => by have := HM1.out.1 h; simp at this)]; rfl, yy.out⟩
    · go_wp2_with fail
      go_ret
      exact ⟨by rw [← HZ.out, if_neg (fun h => h rfl), if_pos (HM1.out.2 (by simp))]; rfl, yy.out⟩
  · have t0 : (s1 != s2) = true := by simpa using hne
    have HNE := hid hne
    have yy := hid (bnext HY.out x2.out)
    clear hne
    go_wp2_with fail
    go_ret
    exact ⟨by rw [← HZ.out, if_pos HNE.out]; rfl, yy.out⟩
end Go.Proofs.YtckihjfkafdncaaGreatDoor
namespace Go.Proofs.YtckihjfkafdncaaGreatDoor
open Go.RowKit Go.Shelf
open Go.Lib (decDigits nDigits)
set_option linter.unusedVariables false
set_option linter.unusedSimpArgs false
def wI (z : Int) (s : ByteArray) : Int := if qE s = 0 then z else 0
def xE (x : Int) (s t : ByteArray) : Int := wE (wE x t) s
def tI (z : Int) (s t : ByteArray) : Int := wI (wI z t) s
set_option maxRecDepth 100000 in
set_option maxHeartbeats 1000000 in
theorem q_withI (w : World) (s : ByteArray) (F : Nat) (cs : Array Value) (R : Int) (x : Int) (hs : s.size ≤ 1000000) (hL : Lay w)
    (hen : ∀ args w, (callFunc F args).run Tryz.prog w = .ok (.enter F args) w)
    (hF : ∀ W v, qE s = 0 → Below w.heap.size w W → IsQ .u64 W v (vQ s) → Lay W → Calls Tryz.prog F (#[v] ++ cs) W fun e w' => e = .returned (.tuple #[.int .i64 R, .int .i64 x]) ∧ Below W.heap.size W w') :
    Calls Tryz.prog 272 #[.string s, .func (.func F) #[] cs] w fun e w' => e = .returned (.tuple #[.int .i64 (wI R s), .int .i64 (wE x s)]) ∧ Below w.heap.size w w' := by
  have HP := hid (f_Parse w s hs hL)
  have HL := hid hL
  have HF := hid hF
  clear hF hs hL
  by_cases h1 : qE s = 0
  · have e1 : wI R s = R := if_pos h1
    have e2 : wE x s = x := if_pos h1
    rw [e1, e2]
    have HQ := hid h1
    rw [h1] at HP
    clear h1 e1 e2
    go_enter Tryz.func272, Tryz.ntmps272
    go_wp2_with fail
    refine HP.out.mono ?_; rintro e w1 ⟨⟨v, rfl, hv, -⟩, hb1⟩
    have hq := isQ_of HQ.out (hv rfl)
    have y1 := hid hb1
    obtain ⟨N, D, hvv, hN, hD⟩ := hv rfl
    subst hvv
    obtain ⟨a, c, rfl, _⟩ := hN.openI
    obtain ⟨a', c', rfl, _⟩ := hD.openI
    obtain ⟨k, hk⟩ : ∃ k, (limbs (bN (iD (cW s)))).length = k := ⟨_, rfl⟩
    obtain ⟨k', hk'⟩ : ∃ k, (limbs (bN (qD s))).length = k := ⟨_, rfl⟩
    obtain ⟨m, hm⟩ : ∃ m, iM (cW s) = m := ⟨_, rfl⟩
    rw [hk, hk', hm] at hq
    rw [hk, hk', hm]
    have Q1 := hid hq
    have X2 := hid (Blk.new w1 #[.bool m, .slice a k c, .slice a' k' c'] 133)
    have b2 := hid ((Below.refl w1.heap.size w1).alloc (Nat.le_refl _) (.cells #[.bool m, .slice a k c, .slice a' k' c'] 133))
    have y2 := hid (bnext y1.out b2.out)
    have Q2 := hid (hq.call b2.out)
    have r0 := X2.out.cell 0
    have r1 := X2.out.cell 1
    have r2 := X2.out.cell 2
    simp at r0 r1 r2
    clear hb1 hv hN hD hk hk' hm hq b2
    go_wp2_with fail
    refine (HF.out _ _ HQ.out y2.out Q2.out (HL.out.call y2.out)).mono ?_; rintro e w3 ⟨rfl, hb3⟩
    have y3 := hid (bnext y2.out hb3); clear hb3
    go_wp2_with fail
    go_ret2
    exact ⟨rfl, y3.out⟩
  · have e1 : wI R s = 0 := if_neg h1
    have e2 : wE x s = qE s := if_neg h1
    rw [e1, e2]
    obtain ⟨y, hy⟩ : ∃ y, qE s = y := ⟨_, rfl⟩
    rw [hy] at HP h1 ⊢
    have q0 : (y == 0) = false := by simpa using h1
    have q1 : (y != 0) = true := by simpa using h1
    have H1 := hid h1
    clear e1 e2 hy h1
    go_enter Tryz.func272, Tryz.ntmps272
    go_wp2_with fail
    refine HP.out.mono ?_; rintro e w1 ⟨⟨v, rfl, -, hv⟩, hb1⟩
    have hv' := hv H1.out
    subst hv'
    have y1 := hid hb1
    have y2 := hid (y1.out.alloc y1.out.size (.cells #[.bool false, .slice none 0 0, .slice none 0 0] 133))
    clear hb1 hv
    go_wp2_with fail
    go_ret2
    exact ⟨rfl, y2.out⟩
set_option maxRecDepth 100000 in
set_option maxHeartbeats 1000000 in
theorem q_both11I (w : World) (v u : Value) (p q : Rat) (F g1 g2 : Nat) (R : Int) (x : Int) (hv : IsQ .u64 w v p) (hu : IsQ .u64 w u q) (hL : Lay w)
    (hen : ∀ args w, (callFunc F args).run Tryz.prog w = .ok (.enter F args) w)
    (c1 : w.cell? ⟨g1, 0, none⟩ = some (.func (.func F) #[] #[])) (m : Bool) (a a' : Option Addr) (k c k' c' : Nat) (hv0 : v = .agg #[.bool m, .slice a k c, .slice a' k' c'])
    (c2 : Blk w g2 #[.bool m, .slice a k c, .slice a' k' c'] 133)
    (hF : ∀ W v u, IsQ .u64 W v p → IsQ .u64 W u q → Lay W → Calls Tryz.prog F #[v, u] W fun e w' => e = .returned (.tuple #[.int .i64 R, .int .i64 x]) ∧ Below W.heap.size W w') :
    Calls Tryz.prog 274 #[u, .pointer (some ⟨g1, 0, none⟩), .pointer (some ⟨g2, 0, none⟩)] w fun e w' => e = .returned (.tuple #[.int .i64 R, .int .i64 x]) ∧ Below w.heap.size w w' := by
  have HF := hid hF
  have HL := hid hL
  obtain ⟨N, D, rfl, hN, hD⟩ := hu.ex
  obtain ⟨a1, d1, rfl, _⟩ := hN.openI
  obtain ⟨a2, d2, rfl, _⟩ := hD.openI
  obtain ⟨k1, hk1⟩ : ∃ k, (limbs q.num.natAbs).length = k := ⟨_, rfl⟩
  obtain ⟨k2, hk2⟩ : ∃ k, (limbs q.den).length = k := ⟨_, rfl⟩
  obtain ⟨mu, hmu⟩ : ∃ m, decide (q.num < 0) = m := ⟨_, rfl⟩
  rw [hk1, hk2, hmu] at hu
  rw [hk1, hk2, hmu]
  subst hv0
  have X2 := hid (Blk.new w #[.bool mu, .slice a1 k1 d1, .slice a2 k2 d2] 133)
  have b2 := hid ((Below.refl w.heap.size w).alloc (Nat.le_refl _) (.cells #[.bool mu, .slice a1 k1 d1, .slice a2 k2 d2] 133))
  have V2 := hid (hv.call b2.out)
  have U2 := hid (hu.call b2.out)
  have C1 := (b2.out.cell (cell_lt c1)).trans c1
  have C2 := hid (c2.call b2.out)
  have r0 := X2.out.cell 0
  have r1 := X2.out.cell 1
  have r2 := X2.out.cell 2
  have s0 := C2.out.cell 0
  have s1 := C2.out.cell 1
  have s2 := C2.out.cell 2
  simp at r0 r1 r2 s0 s1 s2
  clear hk1 hk2 hmu hN hD hv hu c1 c2 hF hL
  go_enter Tryz.func274, Tryz.ntmps274
  go_wp2_with fail
  refine (HF.out _ _ _ V2.out U2.out (HL.out.call b2.out)).mono ?_; rintro e w3 ⟨rfl, hb3⟩
  have y3 := hid (bnext b2.out hb3); clear hb3
  go_wp2_with fail
  go_ret2
  exact ⟨rfl, y3.out⟩
set_option maxRecDepth 100000 in
set_option maxHeartbeats 1000000 in
theorem q_both1I (w : World) (v : Value) (t : ByteArray) (p : Rat) (F g1 g2 : Nat) (R : Int) (x : Int) (ht : t.size ≤ 1000000) (hv : IsQ .u64 w v p) (hL : Lay w)
    (hen : ∀ args w, (callFunc F args).run Tryz.prog w = .ok (.enter F args) w)
    (c1 : w.cell? ⟨g1, 0, none⟩ = some (.string t)) (c2 : w.cell? ⟨g2, 0, none⟩ = some (.func (.func F) #[] #[]))
    (hF : ∀ W v u, qE t = 0 → IsQ .u64 W v p → IsQ .u64 W u (vQ t) → Lay W → Calls Tryz.prog F #[v, u] W fun e w' => e = .returned (.tuple #[.int .i64 R, .int .i64 x]) ∧ Below W.heap.size W w') :
    Calls Tryz.prog 273 #[v, .pointer (some ⟨g1, 0, none⟩), .pointer (some ⟨g2, 0, none⟩)] w fun e w' => e = .returned (.tuple #[.int .i64 (wI R t), .int .i64 (wE x t)]) ∧ Below w.heap.size w w' := by
  have HF := hid hF
  have HL := hid hL
  have HEN := hid hen
  obtain ⟨N, D, rfl, hN, hD⟩ := hv.ex
  obtain ⟨a1, d1, rfl, _⟩ := hN.openI
  obtain ⟨a2, d2, rfl, _⟩ := hD.openI
  obtain ⟨k1, hk1⟩ : ∃ k, (limbs p.num.natAbs).length = k := ⟨_, rfl⟩
  obtain ⟨k2, hk2⟩ : ∃ k, (limbs p.den).length = k := ⟨_, rfl⟩
  obtain ⟨mu, hmu⟩ : ∃ m, decide (p.num < 0) = m := ⟨_, rfl⟩
  rw [hk1, hk2, hmu] at hv
  rw [hk1, hk2, hmu]
  have X2 := hid (Blk.new w #[.bool mu, .slice a1 k1 d1, .slice a2 k2 d2] 133)
  have b2 := hid ((Below.refl w.heap.size w).alloc (Nat.le_refl _) (.cells #[.bool mu, .slice a1 k1 d1, .slice a2 k2 d2] 133))
  have V2 := hid (hv.call b2.out)
  have C1 := (b2.out.cell (cell_lt c1)).trans c1
  have C2 := hid ((b2.out.cell (cell_lt c2)).trans c2)
  have L2 := hid (HL.out.call b2.out)
  obtain ⟨w2, hw2⟩ : ∃ w2, w.alloc (.cells #[.bool mu, .slice a1 k1 d1, .slice a2 k2 d2] 133) = w2 := ⟨_, rfl⟩
  obtain ⟨g3, hg3⟩ : ∃ g, w.heap.size = g := ⟨_, rfl⟩
  have W2 := hid (q_withI w2 t 274 #[.pointer (some ⟨g2, 0, none⟩), .pointer (some ⟨g3, 0, none⟩)] R x ht (hw2 ▸ L2.out) (enters_of Tryz.func274 (by kernel_rfl) rfl)
    (fun W u hq hb hu hLW => by
      subst hw2
      subst hg3
      have hVW := V2.out.call hb
      have hX := X2.out.call hb
      have hC := (hb.cell (cell_lt C2.out)).trans C2.out
      exact q_both11I W _ u p (vQ t) F g2 w.heap.size R x hVW hu hLW HEN.out hC mu a1 a2 k1 d1 k2 d2 rfl hX (fun W v u h1 h2 h3 => HF.out W v u hq h1 h2 h3)))
  rw [hw2] at C1
  clear hk1 hk2 hmu hN hD hv c1 c2 hF hL hen
  go_enter Tryz.func273, Tryz.ntmps273
  go_wp2_with fail
  refine W2.out.mono ?_; rintro e w3 ⟨rfl, hb3⟩
  have y3 := hid (bnext b2.out (hw2 ▸ hb3)); clear hb3
  go_wp2_with fail
  go_ret2
  exact ⟨rfl, y3.out⟩
set_option maxRecDepth 100000 in
set_option maxHeartbeats 1000000 in
theorem q_bothI (w : World) (s t : ByteArray) (F : Nat) (R : Int) (x : Int) (hs : s.size ≤ 1000000) (ht : t.size ≤ 1000000) (hL : Lay w)
    (hen : ∀ args w, (callFunc F args).run Tryz.prog w = .ok (.enter F args) w)
    (hF : ∀ W v u, qE s = 0 → qE t = 0 → IsQ .u64 W v (vQ s) → IsQ .u64 W u (vQ t) → Lay W → Calls Tryz.prog F #[v, u] W fun e w' => e = .returned (.tuple #[.int .i64 R, .int .i64 x]) ∧ Below W.heap.size W w') :
    Calls Tryz.prog 237 #[.string s, .string t, .func (.func F) #[] #[]] w fun e w' => e = .returned (.tuple #[.int .i64 (tI R s t), .int .i64 (xE x s t)]) ∧ Below w.heap.size w w' := by
  have HF := hid hF
  have HL := hid hL
  have HEN := hid hen
  have HT := hid ht
  have b1 := hid ((Below.refl w.heap.size w).alloc (Nat.le_refl _) (.cells #[.string t] 22))
  obtain ⟨w1, hw1⟩ : ∃ w1, w.alloc (.cells #[.string t] 22) = w1 := ⟨_, rfl⟩
  obtain ⟨g1, hg1⟩ : ∃ g, w.heap.size = g := ⟨_, rfl⟩
  have X1 := hid (Blk.new w #[.string t] 22)
  rw [hw1] at b1
  rw [hw1, hg1] at X1
  have b2 := hid ((Below.refl w1.heap.size w1).alloc (Nat.le_refl _) (.cells #[.func (.func F) #[] #[]] 250))
  obtain ⟨w2, hw2⟩ : ∃ w2, w1.alloc (.cells #[.func (.func F) #[] #[]] 250) = w2 := ⟨_, rfl⟩
  have X2 := hid (Blk.new w1 #[.func (.func F) #[] #[]] 250)
  have X12 := hid (X1.out.call b2.out)
  have y2 := hid (bnext b1.out b2.out)
  have hg2 : w1.heap.size = g1 + 1 := by rw [← hw1, ← hg1]; simp
  rw [hw2] at b2 X12 y2
  rw [hw2, hg2] at X2
  have L2 := hid (HL.out.call y2.out)
  have W2 := hid (q_withI w2 s 273 #[.pointer (some ⟨g1, 0, none⟩), .pointer (some ⟨g1 + 1, 0, none⟩)] (wI R t) (wE x t) hs L2.out (enters_of Tryz.func273 (by kernel_rfl) rfl)
    (fun W v hq hb hv hLW => by
      have hX1 := (X12.out.call hb).cell 0
      have hX2 := (X2.out.call hb).cell 0
      exact q_both1I W v t (vQ s) F g1 (g1 + 1) R x HT.out hv hLW HEN.out hX1 hX2 (fun W v u h0 h1 h2 h3 => HF.out W v u hq h0 h1 h2 h3)))
  have HW1 := hid hw1; have HW2 := hid hw2; have HG1 := hid hg1
  clear hF hL hen hs ht hw1 hw2 hg1 hg2 b1
  go_enter Tryz.func237, Tryz.ntmps237
  go_wp2_with fail
  have hw1 := HW1.out; have hw2 := HW2.out; have hg1 := HG1.out
  rw [hw1, hg1, hw2]
  refine W2.out.mono ?_; rintro e w3 ⟨rfl, hb3⟩
  have y3 := hid (bnext y2.out hb3)
  clear hb3 hw1 hw2 hg1
  go_wp2_with fail
  go_ret2
  exact ⟨rfl, by have := y3.out; exact this⟩
end Go.Proofs.YtckihjfkafdncaaGreatDoor
namespace Go.Proofs.YtckihjfkafdncaaGreatDoor
open Go.RowKit Go.Shelf
open Go.Lib (decDigits nDigits)
set_option linter.unusedVariables false
set_option linter.unusedSimpArgs false
theorem c2I (s t : ByteArray) : tI (ordQ (vQ s) (vQ t)) s t = cmB s t := by
  unfold tI wI cmB
  by_cases h1 : qE s = 0 <;> by_cases h2 : qE t = 0 <;> simp [h1, h2]
theorem c2E (s t : ByteArray) : xE 0 s t = cmE s t := by
  unfold xE wE cmE
  by_cases h1 : qE s = 0 <;> by_cases h2 : qE t = 0 <;> simp [h1, h2]
set_option maxRecDepth 100000 in
set_option maxHeartbeats 1000000 in
theorem q_Cmp1 (w : World) (v u : Value) (p q : Rat) (hp : IsQ .u64 w v p) (hq : IsQ .u64 w u q) (sp : Sml 1000 p) (sq : Sml 1000 q) (hL : Lay w) :
    Calls Tryz.prog 238 #[v, u] w fun e w' => e = .returned (.tuple #[.int .i64 (ordQ p q), .int .i64 0]) ∧ Below w.heap.size w w' := by
  have F1 := fun V v u hv hu => hid (f_Cmp V v u p q hv hu (Nat.le_trans sp.n (by omega)) (Nat.le_trans sp.d (by omega)) (Nat.le_trans sq.n (by omega)) (Nat.le_trans sq.d (by omega)))
  have HC := hid (cmF_clamp p q)
  obtain ⟨Z, hZ⟩ : ∃ Z, cmF p q = Z := ⟨_, rfl⟩
  rw [hZ] at F1 HC
  rw [← HC.out]
  obtain ⟨N1, D1, rfl, hn1, hd1⟩ := hp.ex
  obtain ⟨N2, D2, rfl, hn2, hd2⟩ := hq.ex
  obtain ⟨a1, c1, rfl, _⟩ := hn1.openI
  obtain ⟨a2, c2, rfl, _⟩ := hd1.openI
  obtain ⟨a3, c3, rfl, _⟩ := hn2.openI
  obtain ⟨a4, c4, rfl, _⟩ := hd2.openI
  obtain ⟨k1, hk1⟩ : ∃ k, (limbs p.num.natAbs).length = k := ⟨_, rfl⟩
  obtain ⟨k2, hk2⟩ : ∃ k, (limbs p.den).length = k := ⟨_, rfl⟩
  obtain ⟨k3, hk3⟩ : ∃ k, (limbs q.num.natAbs).length = k := ⟨_, rfl⟩
  obtain ⟨k4, hk4⟩ : ∃ k, (limbs q.den).length = k := ⟨_, rfl⟩
  obtain ⟨m1, hm1⟩ : ∃ m, decide (p.num < 0) = m := ⟨_, rfl⟩
  obtain ⟨m2, hm2⟩ : ∃ m, decide (q.num < 0) = m := ⟨_, rfl⟩
  rw [hk1, hk2, hm1] at hp ⊢
  rw [hk3, hk4, hm2] at hq ⊢
  have X1 := hid (Blk.new w #[.bool m1, .slice a1 k1 c1, .slice a2 k2 c2] 133)
  have b1 := hid ((Below.refl w.heap.size w).alloc (Nat.le_refl _) (.cells #[.bool m1, .slice a1 k1 c1, .slice a2 k2 c2] 133))
  have Y1 := hid (X1.out.alloc (.cells #[.bool m2, .slice a3 k3 c3, .slice a4 k4 c4] 133))
  have X2 := hid (Blk.new (w.alloc (.cells #[.bool m1, .slice a1 k1 c1, .slice a2 k2 c2] 133)) #[.bool m2, .slice a3 k3 c3, .slice a4 k4 c4] 133)
  have b2 := hid (b1.out.alloc b1.out.size (.cells #[.bool m2, .slice a3 k3 c3, .slice a4 k4 c4] 133))
  have P2 := hid (hp.call b2.out)
  have Q2 := hid (hq.call b2.out)
  have r0 := Y1.out.cell 0
  have r1 := Y1.out.cell 1
  have r2 := Y1.out.cell 2
  have s0 := X2.out.cell 0
  have s1 := X2.out.cell 1
  have s2 := X2.out.cell 2
  simp at r0 r1 r2 s0 s1 s2
  clear hk1 hk2 hk3 hk4 hm1 hm2 hn1 hn2 hd1 hd2 hp hq hL sp sq hZ
  go_enter Tryz.func238, Tryz.ntmps238
  go_wp2_with fail
  refine (F1 _ _ _ P2.out Q2.out).out.mono ?_; rintro e w3 ⟨rfl, hb3⟩
  have y3 := hid (bnext b2.out hb3)
  clear hb3
  go_wp2_with fail
  go_ret2
  exact ⟨rfl, y3.out⟩
set_option maxRecDepth 100000 in
set_option maxHeartbeats 1000000 in
theorem q_Cmp (w : World) (s t : ByteArray) (hs : s.size ≤ 1000000) (ht : t.size ≤ 1000000) (hL : Lay w) :
    Calls Tryz.prog 172 #[.string s, .string t] w fun e w' => e = .returned (.tuple #[.int .i64 (cmB s t), .int .i64 (cmE s t)]) ∧ Below w.heap.size w w' := by
  have H := hid (q_bothI w s t 238 (ordQ (vQ s) (vQ t)) 0 hs ht hL (enters_of Tryz.func238 (by kernel_rfl) rfl)
    (fun W v u h1 h2 hv hu hLW => q_Cmp1 W v u _ _ hv hu (sml_vQ h1) (sml_vQ h2) hLW))
  rw [c2I, c2E] at H
  obtain ⟨B, hB⟩ : ∃ B, cmB s t = B := ⟨_, rfl⟩
  obtain ⟨E, hE⟩ : ∃ E, cmE s t = E := ⟨_, rfl⟩
  rw [hB, hE] at H ⊢
  clear hB hE hs ht hL
  go_enter Tryz.func172, Tryz.ntmps172
  go_wp2_with fail
  refine H.out.mono ?_; rintro e w3 ⟨rfl, hb3⟩
  have y3 := hid hb3; clear hb3
  go_wp2_with fail
  go_ret2
  exact ⟨rfl, y3.out⟩
set_option maxRecDepth 100000 in
set_option maxHeartbeats 1000000 in
theorem q_chooseMin (w : World) (s t : ByteArray) (hs : s.size ≤ 1000000) (ht : t.size ≤ 1000000) (hL : Lay w) :
    Calls Tryz.prog 112 #[.string s, .string t, .int .i64 1] w fun e w' => e = .returned (.tuple #[.string (mnB s t), .int .i64 (cmE s t)]) ∧ Below w.heap.size w w' := by
  have H := hid (q_Cmp w s t hs ht hL)
  unfold mnB
  have h3 := cmB_three s t
  obtain ⟨B, hB⟩ : ∃ B, cmB s t = B := ⟨_, rfl⟩
  obtain ⟨E, hE⟩ : ∃ E, cmE s t = E := ⟨_, rfl⟩
  rw [hB] at h3
  rw [hB, hE] at H ⊢
  clear hB hE hs ht hL
  by_cases he : E = 0
  · subst he
    rcases h3 with rfl | rfl | rfl
    · go_enter Tryz.func112, Tryz.ntmps112
      go_wp2_with fail
      refine H.out.mono ?_; rintro e w3 ⟨rfl, hb3⟩
      have y3 := hid hb3; clear hb3
      go_wp2_with fail
      go_ret2
      exact ⟨rfl, y3.out⟩
    · go_enter Tryz.func112, Tryz.ntmps112
      go_wp2_with fail
      refine H.out.mono ?_; rintro e w3 ⟨rfl, hb3⟩
      have y3 := hid hb3; clear hb3
      go_wp2_with fail
      go_ret2
      exact ⟨rfl, y3.out⟩
    · go_enter Tryz.func112, Tryz.ntmps112
      go_wp2_with fail
      refine H.out.mono ?_; rintro e w3 ⟨rfl, hb3⟩
      have y3 := hid hb3; clear hb3
      go_wp2_with fail
      go_ret2
      exact ⟨rfl, y3.out⟩
  · rw [if_neg he]
    have q0 : (E == 0) = false := by simpa using he
    have q1 : (E != 0) = true := by simpa using he
    clear he h3
    go_enter Tryz.func112, Tryz.ntmps112
    go_wp2_with fail
    refine H.out.mono ?_; rintro e w3 ⟨rfl, hb3⟩
    have y3 := hid hb3; clear hb3
    go_wp2_with fail
    go_ret2
    exact ⟨rfl, y3.out⟩
set_option maxRecDepth 100000 in
set_option maxHeartbeats 1000000 in
theorem q_Min (w : World) (s t : ByteArray) (hs : s.size ≤ 1000000) (ht : t.size ≤ 1000000) (hL : Lay w) :
    Calls Tryz.prog 60 #[.string s, .string t] w fun e w' => e = .returned (.tuple #[.string (mnB s t), .int .i64 (cmE s t)]) ∧ Below w.heap.size w w' := by
  have H := hid (q_chooseMin w s t hs ht hL)
  obtain ⟨B, hB⟩ : ∃ B, mnB s t = B := ⟨_, rfl⟩
  obtain ⟨E, hE⟩ : ∃ E, cmE s t = E := ⟨_, rfl⟩
  rw [hB, hE] at H ⊢
  clear hB hE hs ht hL
  go_enter Tryz.func60, Tryz.ntmps60
  go_wp2_with fail
  refine H.out.mono ?_; rintro e w3 ⟨rfl, hb3⟩
  have y3 := hid hb3; clear hb3
  go_wp2_with fail
  go_ret2
  exact ⟨rfl, y3.out⟩
end Go.Proofs.YtckihjfkafdncaaGreatDoor
namespace Go.Proofs.YtckihjfkafdncaaGreatDoor
open Go.RowKit Go.Shelf
open Go.Lib (decDigits nDigits)
set_option linter.unusedVariables false
set_option linter.unusedSimpArgs false
set_option maxRecDepth 100000 in
set_option maxHeartbeats 1000000 in
theorem q_Int (w : World) (n : Nat) (h : n ≤ 9223372036854775807) (hL : Lay w) :
    Calls Tryz.prog 61 #[.int .i64 (n : Nat)] w fun e w' => e = .returned (.string (numB n)) ∧ Below w.heap.size w w' := by
  have H := hid (s_Itoa w n h hL)
  obtain ⟨s, hs⟩ : ∃ s, numB n = s := ⟨_, rfl⟩
  rw [hs] at H ⊢
  clear hs h hL
  go_enter Tryz.func61, Tryz.ntmps61
  go_wp2_with fail
  refine H.out.mono ?_; rintro e w3 ⟨rfl, hb3⟩
  have y3 := hid hb3; clear hb3
  go_wp2_with fail
  go_ret
  exact ⟨rfl, y3.out⟩
end Go.Proofs.YtckihjfkafdncaaGreatDoor
namespace Go.Proofs.YtckihjfkafdncaaGreatDoor
open Go.RowKit Go.Shelf
open Go.Lib (decDigits nDigits)
set_option linter.unusedVariables false
set_option linter.unusedSimpArgs false
set_option maxRecDepth 100000 in
set_option maxHeartbeats 2000000 in
theorem q_PowN1 (w : World) (v : Value) (q : Rat) (n g1 : Nat) (z : Int) (hp : IsQ .u64 w v q) (sp : Sml 1000 q) (h0 : q ≠ 0) (hn1 : 1 ≤ n) (hn : n ≤ 1000000000) (hzn : z = -(n : Int)) (hL : Lay w) (c1 : w.cell? ⟨g1, 0, none⟩ = some (.int .i64 z)) :
    Calls Tryz.prog 103 #[v, .pointer (some ⟨g1, 0, none⟩)] w fun e w' => e = .returned (.tuple #[.string (outB (q⁻¹ ^ n)), .int .i64 (outE (q⁻¹ ^ n))]) ∧ Below w.heap.size w w' := by
  have FS := fun V v hv => hid (f_Sign V v q hv)
  have FI := fun V v hv => hid (f_Inv V v q hv h0)
  have sg := sg_ne h0
  have spi := sml_inv h0 sp
  obtain ⟨sx, hz⟩ : ∃ z, sgQ q = z := ⟨_, rfl⟩
  rw [hz] at FS sg
  obtain ⟨p, hpq⟩ : ∃ p, q⁻¹ = p := ⟨_, rfl⟩
  rw [hpq] at FI spi ⊢
  have F1 := fun V v hv hV => hid (l_Pow V v p.num.natAbs n hv (Nat.le_trans spi.n (by omega)) (by omega) hV)
  have F2 := fun V v hv hV => hid (l_Pow V v p.den n hv (Nat.le_trans spi.d (by omega)) (by omega) hV)
  obtain ⟨e1, e2, e3⟩ := pow_parts p n
  have HOV := hid (fun h => pow_over (q := p) (n := n) h)
  have F3 := fun V v hv hV (h1 : nDigits (p.num.natAbs ^ n) ≤ 4000) (h2 : nDigits (p.den ^ n) ≤ 4000) => hid (f_Num V v (p ^ n) hv (by rw [e2]; exact Nat.le_trans (limbs_of_digits h1) (by omega)) (by rw [e3]; exact Nat.le_trans (limbs_of_digits h2) (by omega)) hV)
  obtain ⟨B, hB⟩ : ∃ B, outB (p ^ n) = B := ⟨_, rfl⟩
  obtain ⟨E, hE⟩ : ∃ E, outE (p ^ n) = E := ⟨_, rfl⟩
  rw [hB, hE] at F3 HOV ⊢
  clear hB hE
  have HL := hid hL
  obtain ⟨N1, D1, rfl, hn1', hd1⟩ := hp.ex
  obtain ⟨a1, c1', rfl, _⟩ := hn1'.openI
  obtain ⟨a2, c2', rfl, _⟩ := hd1.openI
  obtain ⟨k1, hk1⟩ : ∃ k, (limbs q.num.natAbs).length = k := ⟨_, rfl⟩
  obtain ⟨k2, hk2⟩ : ∃ k, (limbs q.den).length = k := ⟨_, rfl⟩
  obtain ⟨mq, hmq⟩ : ∃ m, decide (q.num < 0) = m := ⟨_, rfl⟩
  rw [hk1, hk2, hmq] at hp ⊢
  have X1 := hid (Blk.new w #[.bool mq, .slice a1 k1 c1', .slice a2 k2 c2'] 133)
  have b1 := hid ((Below.refl w.heap.size w).alloc (Nat.le_refl _) (.cells #[.bool mq, .slice a1 k1 c1', .slice a2 k2 c2'] 133))
  have HP := hid (hp.call b1.out)
  have r0 := X1.out.cell 0
  have r1 := X1.out.cell 1
  have r2 := X1.out.cell 2
  have C1 := (b1.out.cell (cell_lt c1)).trans c1
  simp at r0 r1 r2
  have q0 : decide (z < 0) = true := decide_eq_true (by omega)
  obtain ⟨u, hu⟩ : ∃ u : Int, 18446744073709551616 - (n : Int) = u := ⟨_, rfl⟩
  have w0 : IntKind.u64.wrap z = u := by simp [IntKind.wrap, IntKind.bits, IntKind.signed]; omega
  have w1 : IntKind.u64.wrap (-u) = (n : Int) := by simp [IntKind.wrap, IntKind.bits, IntKind.signed]; omega
  have E1 := hid e1; have E2 := hid e2; have E3 := hid e3; have HN := hid hn
  clear hk1 hk2 hmq hn1' hd1 hp hL sp spi e1 e2 e3 c1 hn hn1 h0 hz hpq hzn hu
  go_enter Tryz.func103, Tryz.ntmps103
  go_wp2_with fail
  refine (FS _ _ HP.out).out.mono ?_; rintro e w2 ⟨rfl, hb2⟩
  have y2 := hid (bnext b1.out hb2); have X2 := hid (X1.out.call hb2); have C2 := (hb2.cell (cell_lt C1)).trans C1; have HP2 := hid (HP.out.call hb2)
  clear hb2 r0 r1 r2 C1
  have r0 := X2.out.cell 0
  have r1 := X2.out.cell 1
  have r2 := X2.out.cell 2
  simp at r0 r1 r2
  go_wp2_with fail
  refine (FI _ _ HP2.out).out.mono ?_; rintro e w3 ⟨⟨vi, rfl, hvi⟩, hb3⟩
  have y3 := hid (bnext y2.out hb3); have X3 := hid (X2.out.call hb3); have C3 := (hb3.cell (cell_lt C2)).trans C2
  obtain ⟨N3, D3, rfl, hn3, hd3⟩ := hvi.ex
  obtain ⟨a3, c3, rfl, _⟩ := hn3.openI
  obtain ⟨a4, c4, rfl, _⟩ := hd3.openI
  obtain ⟨k3, hk3⟩ : ∃ k, (limbs p.num.natAbs).length = k := ⟨_, rfl⟩
  obtain ⟨k4, hk4⟩ : ∃ k, (limbs p.den).length = k := ⟨_, rfl⟩
  obtain ⟨m1, hm1⟩ : ∃ m, decide (p.num < 0) = m := ⟨_, rfl⟩
  rw [hk3, hk4, hm1] at hvi ⊢
  rw [hk3] at hn3
  rw [hk4] at hd3
  have E1' := E1.out
  rw [hm1] at E1'
  have E1 := hid E1'
  have HN3 := hid hn3; have HD3 := hid hd3
  clear hb3 r0 r1 r2 C2 hk3 hk4 hm1 hvi hn3 hd3 E1'
  have r0 := X3.out.cell 0
  have r1 := X3.out.cell 1
  have r2 := X3.out.cell 2
  have f0 := X3.out.free 0
  have f1 := X3.out.free 1
  have f2 := X3.out.free 2
  simp at r0 r1 r2
  obtain ⟨s1, s2⟩ := set3 X3.out m1 a3 a4 k3 c3 k4 c4
  have N2 := hid (s1 _ _ _ HN3.out)
  have D2 := hid (s1 _ _ _ HD3.out)
  have X0 := hid s2
  have y0 : Hid (Below w.heap.size w (((w3.setCell ⟨w.heap.size, 0, none⟩ (.bool m1)).setCell ⟨w.heap.size, 1, none⟩ (.slice a3 k3 c3)).setCell ⟨w.heap.size, 2, none⟩ (.slice a4 k4 c4))) := ((y3.out.setCell (Nat.le_refl _) _).setCell (Nat.le_refl _) _).setCell (Nat.le_refl _) _
  clear s1 s2
  go_wp2_with fail
  clear f0 f1 f2
  refine (F1 _ _ N2.out (HL.out.call y0.out)).out.mono ?_; rintro e w3 ⟨hr3, hb3⟩
  have y3 := hid (bnext y0.out hb3); have X3 := hid (X0.out.call hb3); have D3 := hid (D2.out.call hb3)
  clear hb3 r0 r1 r2
  have r0 := X3.out.cell 0
  have r1 := X3.out.cell 1
  have r2 := X3.out.cell 2
  simp at r0 r1 r2
  rcases hr3 with ⟨l3, v3, rfl, hv3⟩ | ⟨l3, rfl⟩
  · obtain ⟨a3, c3, rfl, _⟩ := hv3.openI
    obtain ⟨k3, hk3⟩ : ∃ k, (limbs (p.num.natAbs ^ n)).length = k := ⟨_, rfl⟩
    rw [hk3] at hv3 ⊢
    have V3 := hid hv3; have L3 := hid l3
    clear hk3 hv3 l3
    go_wp2_with fail
    refine (F2 _ _ D3.out (HL.out.call y3.out)).out.mono ?_; rintro e w4 ⟨hr4, hb4⟩
    have y4 := hid (bnext y3.out hb4); have X4 := hid (X3.out.call hb4); have V4 := hid (V3.out.call hb4)
    clear hb4 r0 r1 r2
    have r0 := X4.out.cell 0
    have r1 := X4.out.cell 1
    have r2 := X4.out.cell 2
    simp at r0 r1 r2
    rcases hr4 with ⟨l4, v4, rfl, hv4⟩ | ⟨l4, rfl⟩
    · obtain ⟨a4, c4, rfl, _⟩ := hv4.openI
      obtain ⟨k4, hk4⟩ : ∃ k, (limbs (p.den ^ n)).length = k := ⟨_, rfl⟩
      rw [hk4] at hv4 ⊢
      have W4 := hid hv4; have L4 := hid l4
      clear hk4 hv4 l4
      have M := hid (show IsQ .u64 w4 (.agg #[.bool (m1 && decide (n % 2 = 1)), .slice a3 k3 c3, .slice a4 k4 c4]) (p ^ n) from ⟨_, _, by rw [E1.out], by rw [E2.out]; exact V4.out, by rw [E3.out]; exact W4.out⟩)
      obtain ⟨Q, hQ⟩ : ∃ Q, p ^ n = Q := ⟨_, rfl⟩
      rw [hQ] at F3 M
      clear hQ HOV F1 F2
      have F4 := F3 _ _ M.out (HL.out.call y4.out) L3.out L4.out
      cases m1
      · simp only [Bool.false_and] at F4
        go_wp2_with fail
        refine F4.out.mono ?_; rintro e w5 ⟨rfl, hb5⟩
        have y5 := hid (bnext y4.out hb5); clear hb5
        go_wp2_with fail
        go_ret2
        exact ⟨rfl, y5.out⟩
      · simp only [Bool.true_and] at F4
        have e9 : ((n : Int) % 2 == 1) = decide (n % 2 = 1) := by
          rw [Bool.eq_iff_iff, beq_iff_eq, decide_eq_true_eq]; omega
        rw [← e9] at F4
        clear e9
        go_wp2_with fail
        refine F4.out.mono ?_; rintro e w5 ⟨rfl, hb5⟩
        have y5 := hid (bnext y4.out hb5); clear hb5
        go_wp2_with fail
        go_ret2
        exact ⟨rfl, y5.out⟩
    · have e7 := hid (HOV.out (.inr l4))
      clear l4
      go_wp2_with fail
      go_ret2
      exact ⟨by rw [e7.out.1, e7.out.2]; rfl, y4.out⟩
  · have e7 := hid (HOV.out (.inl l3))
    clear l3
    go_wp2_with fail
    refine (F2 _ _ D3.out (HL.out.call y3.out)).out.mono ?_; rintro e w4 ⟨hr4, hb4⟩
    have y4 := hid (bnext y3.out hb4)
    rcases hr4 with ⟨l4, v4, rfl, hv4⟩ | ⟨l4, rfl⟩
    · obtain ⟨a4, c4, rfl, _⟩ := hv4.openI
      obtain ⟨k4, hk4⟩ : ∃ k, (limbs (p.den ^ n)).length = k := ⟨_, rfl⟩
      rw [hk4]
      clear hk4 hv4 l4 hb4
      go_wp2_with fail
      go_ret2
      exact ⟨by rw [e7.out.1, e7.out.2]; rfl, y4.out⟩
    · clear l4 hb4
      go_wp2_with fail
      go_ret2
      exact ⟨by rw [e7.out.1, e7.out.2]; rfl, y4.out⟩
def pnB (n : Nat) (s : ByteArray) : ByteArray := op1B (fun q => q⁻¹ ^ n) s
def pnE (n : Nat) (s : ByteArray) : Int := op1E (fun q => q⁻¹ ^ n) s
set_option maxRecDepth 100000 in
set_option maxHeartbeats 1000000 in
theorem q_PowN (w : World) (s : ByteArray) (n : Nat) (z : Int) (hs : s.size ≤ 1000000) (hq : qE s = 0) (h0 : vQ s ≠ 0) (hn : n ≤ 1000000000) (hzn : z = -(n : Int)) (hL : Lay w) :
    Calls Tryz.prog 51 #[.string s, .int .i64 z] w fun e w' => e = .returned (.tuple #[.string (pnB n s), .int .i64 (pnE n s)]) ∧ Below w.heap.size w w' := by
  by_cases hn0 : n = 0
  · subst hn0
    obtain rfl : z = ((0 : Nat) : Int) := by omega
    refine (q_Pow w s 0 hs (by omega) hL).mono ?_
    rintro e w' ⟨rfl, hb⟩
    refine ⟨?_, hb⟩
    unfold pwB pwE pnB pnE op1B op1E
    simp only [Rat.pow_zero]
  have HL := hid hL
  have b1 := hid ((Below.refl w.heap.size w).alloc (Nat.le_refl _) (.cells #[.int .i64 z] 3))
  have X1 := hid (Blk.new w #[.int .i64 z] 3)
  obtain ⟨g1, hg1⟩ : ∃ g, w.heap.size = g := ⟨_, rfl⟩
  obtain ⟨w1, hw1⟩ : ∃ w1, w.alloc (.cells #[.int .i64 z] 3) = w1 := ⟨_, rfl⟩
  have L1 := hid (HL.out.call b1.out)
  have b1' := b1
  rw [hw1] at b1 X1 L1
  rw [hg1] at X1
  have W1 := hid (q_with w1 s 103 #[.pointer (some ⟨g1, 0, none⟩)] (outB ((vQ s)⁻¹ ^ n)) (outE ((vQ s)⁻¹ ^ n)) hs L1.out (enters_of Tryz.func103 (by kernel_rfl) rfl)
    (fun W v hq hb hv hLW => q_PowN1 W v (vQ s) n g1 z hv (sml_vQ hq) h0 (by omega) hn hzn hLW ((X1.out.call hb).cell 0)))
  have e1 : wB (outB ((vQ s)⁻¹ ^ n)) s = pnB n s := rfl
  have e2 : wE (outE ((vQ s)⁻¹ ^ n)) s = pnE n s := rfl
  rw [e1, e2] at W1
  obtain ⟨B, hB⟩ : ∃ B, pnB n s = B := ⟨_, rfl⟩
  obtain ⟨E, hE⟩ : ∃ E, pnE n s = E := ⟨_, rfl⟩
  rw [hB, hE] at W1 ⊢
  have HW := hid hw1; have HG := hid hg1
  clear hB hE hs hL hn e1 e2 hw1 hg1 b1' hq h0 hn0 hzn
  go_enter Tryz.func51, Tryz.ntmps51
  go_wp2_with fail
  have hw1 := HW.out; have hg1 := HG.out
  rw [hw1, hg1]
  refine W1.out.mono ?_; rintro e w2 ⟨rfl, hb2⟩
  have y2 := hid (bnext b1.out hb2)
  clear hb2 hw1 hg1
  go_wp2_with fail
  go_ret2
  exact ⟨rfl, y2.out⟩
end Go.Proofs.YtckihjfkafdncaaGreatDoor
namespace Go.Proofs.YtckihjfkafdncaaGreatDoor
open Go.RowKit Go.Shelf
open Go.Lib (decDigits nDigits)
set_option linter.unusedVariables false
set_option linter.unusedSimpArgs false
theorem MRow.nilS (w : World) : MRow w (.slice none 0 0) [] := MRow.nil w
set_option maxRecDepth 100000 in
set_option maxHeartbeats 2000000 in
theorem fd_Law (w : World) (v : Value) (c : List Int) (a : ByteArray) (n : Int) (hv : Row w v (zs c)) (ha : a.size ≤ 100000) (hL : LayB w) :
    Calls Tryz.prog 9 #[v, .string a, .int .i64 n] w fun e w' => (∃ u, e = .returned (.tuple #[u, .int .i64 (flE c a n)]) ∧ MRow w' u (flR c a n)) ∧ Below w.heap.size w w' := by
  by_cases h0 : flE c a n = 0
  · have hE := h0
    unfold flE at h0
    split at h0
    · rename_i h1; exact absurd h0 h1
    · rename_i h1
      split at h0
      · cases h0
      · rename_i h2
        split at h0
        · cases h0
        · rename_i h3
          obtain ⟨m, rfl⟩ : ∃ m : Nat, n = (m : Nat) := ⟨n.toNat, by omega⟩
          rw [hE]
          have e2 : flR c a (m : Nat) = sortM (fkP (gV (bN (cW a)) (bN (qD a)) false m) m c) := by unfold flR; rw [if_pos hE, Int.toNat_natCast]
          rw [e2]
          refine fd_Law_ok w v c a m hv ha (Classical.byContradiction h1) (by omega) ?_ hL
          have : ¬ (256 : Int) < ((m * c.length : Nat) : Int) := by rwa [Int.natCast_mul]
          omega
  · have e2 : flR c a n = [] := if_neg h0
    rw [e2]
    have HQ := hid (fd_question w v c a hv ha hL.l)
    obtain ⟨s, cp, rfl, q1, q2, q3⟩ := hv.openZ
    obtain ⟨L, hLL⟩ : ∃ L, c.length = L := ⟨_, rfl⟩
    unfold flE at h0 ⊢
    obtain ⟨z, hz⟩ : ∃ z, qnE c a = z := ⟨_, rfl⟩
    have hz0 := hz
    rw [hz] at HQ h0 ⊢
    rw [hLL] at HQ h0 q1 ⊢
    by_cases c0 : z = 0
    case neg =>
      rw [if_pos c0]
      have t0 : (z == 0) = false := by rw [beq_eq_false_iff_ne]; exact c0
      clear hv q3 hLL hz hz0 h0 c0 ha hL
      go_enter Tryz.func9, Tryz.ntmps9
      go_wp2_with fail
      refine HQ.out.mono ?_; rintro e w0 ⟨rfl, hb0⟩
      go_wp2_with fail
      go_ret2
      exact ⟨⟨_, rfl, MRow.nilS _⟩, hb0⟩
    rw [c0] at HQ
    rw [if_neg (by rw [c0]; simp)] at h0 ⊢
    by_cases c1 : n < 0 ∨ 32 < n
    · rw [if_pos c1]
      obtain ⟨p, hp⟩ : ∃ p, decide (n < 0) = p := ⟨_, rfl⟩
      obtain ⟨q, hq⟩ : ∃ q, decide (32 < n) = q := ⟨_, rfl⟩
      have hpq : (p || q) = true := by rw [← hp, ← hq]; simpa using c1
      clear hv q3 hLL hz hz0 h0 c0 c1 ha hL
      cases p
      · obtain rfl : q = true := by simpa using hpq
        clear hpq
        go_enter Tryz.func9, Tryz.ntmps9
        go_wp2_with fail
        refine HQ.out.mono ?_; rintro e w0 ⟨rfl, hb0⟩
        go_wp2_with fail
        go_ret2
        exact ⟨⟨_, rfl, MRow.nilS _⟩, hb0⟩
      · clear hpq hq
        go_enter Tryz.func9, Tryz.ntmps9
        go_wp2_with fail
        refine HQ.out.mono ?_; rintro e w0 ⟨rfl, hb0⟩
        go_wp2_with fail
        go_ret2
        exact ⟨⟨_, rfl, MRow.nilS _⟩, hb0⟩
    · rw [if_neg c1] at h0 ⊢
      have hq := qnE_ok (hz0.trans c0)
      rw [hLL] at hq
      obtain ⟨-, k2, -, -⟩ := hq
      obtain ⟨m, rfl⟩ : ∃ m : Nat, n = (m : Nat) := ⟨n.toNat, by omega⟩
      by_cases c2 : 256 < ((m : Nat) : Int) * ((L : Nat) : Int)
      · rw [if_pos c2]
        have t1 : decide ((m : Int) < 0) = false := by simp
        have t2 : decide ((32 : Int) < (m : Int)) = false := by simp; omega
        obtain ⟨M, hM⟩ : ∃ M : Int, (m : Int) * (L : Int) = M := ⟨_, rfl⟩
        have hM2 : M ≤ 100000 := by
          rw [← hM]
          have h5 : m * L ≤ 32 * 256 := Nat.mul_le_mul (by omega) k2
          have : ((m * L : Nat) : Int) ≤ 100000 := by omega
          rwa [Int.natCast_mul] at this
        rw [hM] at c2
        have wm : IntKind.i64.wrap ((m : Int) * (L : Int)) = M := by rw [hM, IntWalk.i64_in _ ⟨by omega, by omega⟩]
        have t3 : decide (256 < M) = true := decide_eq_true c2
        clear hv q3 hLL hz hz0 h0 c0 c1 c2 ha hL hM hM2 k2
        go_enter Tryz.func9, Tryz.ntmps9
        go_wp2_with fail
        refine HQ.out.mono ?_; rintro e w0 ⟨rfl, hb0⟩
        go_wp2_with fail
        go_ret2
        exact ⟨⟨_, rfl, MRow.nilS _⟩, hb0⟩
      · rw [if_neg c2] at h0
        exact absurd rfl h0
set_option maxRecDepth 100000 in
set_option maxHeartbeats 2000000 in
theorem fd_Late (w : World) (a : ByteArray) (n many : Int) (ha : a.size ≤ 100000) (hL : Lay w) :
    Calls Tryz.prog 21 #[.string a, .int .i64 n, .int .i64 many] w fun e w' => e = .returned (.tuple #[.string (fltB a n many), .int .i64 (fltE a n many)]) ∧ Below w.heap.size w w' := by
  have HR := hid (fd_ratio w a ha hL)
  unfold fltB fltE
  by_cases h0 : fltX a n many = 0
  · rw [if_neg (by rw [h0]; simp), if_neg (by rw [h0]; simp)]
    have h0' := h0
    unfold fltX at h0'
    split at h0'
    · rename_i h1; exact absurd h0' h1
    rename_i h1
    have h1 : gPE a = 0 := Classical.byContradiction h1
    split at h0'
    · cases h0'
    rename_i h2
    rw [h1] at HR
    have ge : glE a n 256 = 0 := by unfold glE; rw [if_neg (by rw [h1]; simp), if_neg (by omega)]
    have HO := fun V hV => hid (g_OneLateA V a n ha hV)
    rw [ge] at HO
    obtain ⟨m, rfl⟩ : ∃ m : Nat, many = (m : Nat) := ⟨many.toNat, by omega⟩
    have HI := fun V hV => hid (q_Int V m (by omega) hV)
    have HT := fun V hV => hid (fd_times V (glB a n false) (numB m) (Nat.le_trans (glB_size _ _ _) (by omega)) (numB_sz (by have := nDigits_le (n := m) (k := 3) (by omega) (by omega); omega)) hV)
    have HM := fun V hV => hid (q_Min V (op2B (· * ·) (glB a n false) (numB m)) ⟨#[49]⟩ (Nat.le_trans (fx_size _ _ _) (by omega)) (by decide) hV)
    unfold fltT
    rw [Int.toNat_natCast]
    obtain ⟨G, hG⟩ : ∃ s, glB a n false = s := ⟨_, rfl⟩
    obtain ⟨I, hI⟩ : ∃ s, numB m = s := ⟨_, rfl⟩
    rw [hG] at HO HT HM ⊢
    rw [hI] at HI HT HM ⊢
    obtain ⟨T, hT⟩ : ∃ s, op2B (· * ·) G I = s := ⟨_, rfl⟩
    rw [hT] at HT HM ⊢
    obtain ⟨B, hB⟩ : ∃ s, mnB T ⟨#[49]⟩ = s := ⟨_, rfl⟩
    obtain ⟨E, hE⟩ : ∃ s, cmE T ⟨#[49]⟩ = s := ⟨_, rfl⟩
    rw [hB, hE] at HM ⊢
    have t1 : decide (n < 0) = false := decide_eq_false (by omega)
    have t2 : decide (256 < n) = false := decide_eq_false (by omega)
    obtain ⟨M, hMM⟩ : ∃ M : Int, ((m : Nat) : Int) = M := ⟨_, rfl⟩
    rw [hMM] at h2 HI ⊢
    have t3 : decide (M < 1) = false := decide_eq_false (by omega)
    have t4 : decide (256 < M) = false := decide_eq_false (by omega)
    have HL := hid hL
    clear ha hL h0 h0' h1 h2 ge hG hI hT hB hE hMM
    go_enter Tryz.func21, Tryz.ntmps21
    go_wp2_with fail
    refine HR.out.mono ?_; rintro e w1 ⟨rfl, hb1⟩
    have y1 := hid hb1; clear hb1
    go_wp2_with fail
    refine (HO _ (HL.out.call y1.out)).out.mono ?_; rintro e w2 ⟨rfl, hb2⟩
    have y2 := hid (bnext y1.out hb2); clear hb2
    go_wp2_with fail
    refine (HI _ (HL.out.call y2.out)).out.mono ?_; rintro e w3 ⟨rfl, hb3⟩
    have y3 := hid (bnext y2.out hb3); clear hb3
    go_wp2_with fail
    refine (HT _ (HL.out.call y3.out)).out.mono ?_; rintro e w4 ⟨rfl, hb4⟩
    have y4 := hid (bnext y3.out hb4); clear hb4
    go_wp2_with fail
    refine (HM _ (HL.out.call y4.out)).out.mono ?_; rintro e w5 ⟨rfl, hb5⟩
    have y5 := hid (bnext y4.out hb5); clear hb5
    go_wp2_with fail
    go_ret2
    exact ⟨rfl, y5.out⟩
  · rw [if_pos h0, if_pos h0]
    unfold fltX at h0 ⊢
    obtain ⟨z, hz⟩ : ∃ z, gPE a = z := ⟨_, rfl⟩
    rw [hz] at HR h0 ⊢
    by_cases c0 : z = 0
    case neg =>
      rw [if_pos c0]
      have t0 : (z == 0) = false := by rw [beq_eq_false_iff_ne]; exact c0
      clear hz h0 c0 ha hL
      go_enter Tryz.func21, Tryz.ntmps21
      go_wp2_with fail
      refine HR.out.mono ?_; rintro e w0 ⟨rfl, hb0⟩
      go_wp2_with fail
      go_ret2
      exact ⟨rfl, hb0⟩
    subst c0
    rw [if_neg (by simp)] at h0 ⊢
    by_cases c1 : n < 0 ∨ 256 < n ∨ many < 1 ∨ 256 < many
    · rw [if_pos c1]
      obtain ⟨p1, h1⟩ : ∃ p, decide (n < 0) = p := ⟨_, rfl⟩
      obtain ⟨p2, h2⟩ : ∃ p, decide (256 < n) = p := ⟨_, rfl⟩
      obtain ⟨p3, h3⟩ : ∃ p, decide (many < 1) = p := ⟨_, rfl⟩
      obtain ⟨p4, h4⟩ : ∃ p, decide (256 < many) = p := ⟨_, rfl⟩
      have hpq : (p1 || (p2 || (p3 || p4))) = true := by rw [← h1, ← h2, ← h3, ← h4]; simpa using c1
      clear hz h0 c1 ha hL
      cases p1
      case true =>
        clear hpq h2 h3 h4
        go_enter Tryz.func21, Tryz.ntmps21
        go_wp2_with fail
        refine HR.out.mono ?_; rintro e w0 ⟨rfl, hb0⟩
        go_wp2_with fail
        go_ret2
        exact ⟨rfl, hb0⟩
      cases p2
      case true =>
        clear hpq h3 h4
        go_enter Tryz.func21, Tryz.ntmps21
        go_wp2_with fail
        refine HR.out.mono ?_; rintro e w0 ⟨rfl, hb0⟩
        go_wp2_with fail
        go_ret2
        exact ⟨rfl, hb0⟩
      cases p3
      case true =>
        clear hpq h4
        go_enter Tryz.func21, Tryz.ntmps21
        go_wp2_with fail
        refine HR.out.mono ?_; rintro e w0 ⟨rfl, hb0⟩
        go_wp2_with fail
        go_ret2
        exact ⟨rfl, hb0⟩
      obtain rfl : p4 = true := by simpa using hpq
      clear hpq
      go_enter Tryz.func21, Tryz.ntmps21
      go_wp2_with fail
      refine HR.out.mono ?_; rintro e w0 ⟨rfl, hb0⟩
      go_wp2_with fail
      go_ret2
      exact ⟨rfl, hb0⟩
    · rw [if_neg c1] at h0
      exact absurd rfl h0
set_option maxRecDepth 100000 in
set_option maxHeartbeats 2000000 in
theorem fd_Factor (w : World) (a : ByteArray) (reach : Int) (one : Bool) (ha : a.size ≤ 100000) (hL : Lay w) :
    Calls Tryz.prog 16 #[.string a, .int .i64 reach, .bool one] w fun e w' => e = .returned (.tuple #[.string (ffB a reach one), .int .i64 (ffE a reach one)]) ∧ Below w.heap.size w w' := by
  have HR := hid (fd_ratio w a ha hL)
  unfold ffB ffE
  by_cases h0 : ffX a reach = 0
  · rw [if_neg (by rw [h0]; simp), if_neg (by rw [h0]; simp)]
    have h0' := h0
    unfold ffX at h0'
    split at h0'
    · rename_i h1; exact absurd h0' h1
    rename_i h1
    have h1 : ivrE a = 0 := Classical.byContradiction h1
    split at h0'
    · cases h0'
    rename_i h2
    obtain ⟨g1, g2⟩ := ivrE_ok h1
    rw [g1] at HR
    obtain ⟨hq, -⟩ := iv_pos h1
    have hne := iv_ne h1
    obtain ⟨r, rfl⟩ : ∃ r : Nat, reach = (r : Nat) := ⟨reach.toNat, by omega⟩
    have HP := fun V hV => hid (q_PowN V a (ffM (r : Nat) one) (-((ffM (r : Nat) one : Nat) : Int)) (by omega) hq hne (by unfold ffM; split <;> simp <;> omega) rfl hV)
    have e1 : pnB (ffM (r : Nat) one) a = pngB (ffM (r : Nat) one) a := rfl
    have e2 : pnE (ffM (r : Nat) one) a = pngE (ffM (r : Nat) one) a := rfl
    rw [e1, e2] at HP
    have hM : ffM (r : Nat) one = if one = true then r else 2 * r := by unfold ffM; rw [Int.toNat_natCast]
    obtain ⟨B, hB⟩ : ∃ s, pngB (ffM (r : Nat) one) a = s := ⟨_, rfl⟩
    obtain ⟨E, hE⟩ : ∃ s, pngE (ffM (r : Nat) one) a = s := ⟨_, rfl⟩
    rw [hB, hE] at HP ⊢
    rw [hM] at HP
    have t0 : (a.toList == [48]) = false := ne_lit g2
    have HL := hid hL
    cases one
    · simp only [Bool.false_eq_true, if_false] at HP
      have wr2 : IntKind.i64.wrap ((r : Int) * 2) = ((2 * r : Nat) : Int) := by rw [IntWalk.i64_in _ ⟨by omega, by omega⟩]; omega
      have hneg : IntKind.i64.wrap (-((2 * r : Nat) : Int)) = -((2 * r : Nat) : Int) := by rw [IntWalk.i64_in _ ⟨by omega, by omega⟩]
      obtain ⟨z, hz⟩ : ∃ z : Int, ((2 * r : Nat) : Int) = z := ⟨_, rfl⟩
      obtain ⟨R, hR⟩ : ∃ R : Int, ((r : Nat) : Int) = R := ⟨_, rfl⟩
      rw [hz] at HP wr2 hneg
      rw [hR] at wr2 h2 ⊢
      have t1 : decide (R < 0) = false := decide_eq_false (by omega)
      have t2 : decide (10000 < R) = false := decide_eq_false (by omega)
      clear ha hL h0 h0' h1 h2 g1 g2 hq hne e1 e2 hM hB hE hz hR
      go_enter Tryz.func16, Tryz.ntmps16
      go_wp2_with fail
      refine HR.out.mono ?_; rintro e w1 ⟨rfl, hb1⟩
      have y1 := hid hb1; clear hb1
      go_wp2_with fail
      refine (HP _ (HL.out.call y1.out)).out.mono ?_; rintro e w2 ⟨rfl, hb2⟩
      have y2 := hid (bnext y1.out hb2); clear hb2
      go_wp2_with fail
      go_ret2
      exact ⟨rfl, y2.out⟩
    · simp only [if_true] at HP
      have hneg : IntKind.i64.wrap (-(r : Int)) = -(r : Int) := by rw [IntWalk.i64_in _ ⟨by omega, by omega⟩]
      obtain ⟨R, hR⟩ : ∃ R : Int, ((r : Nat) : Int) = R := ⟨_, rfl⟩
      rw [hR] at HP hneg h2 ⊢
      have t1 : decide (R < 0) = false := decide_eq_false (by omega)
      have t2 : decide (10000 < R) = false := decide_eq_false (by omega)
      clear ha hL h0 h0' h1 h2 g1 g2 hq hne e1 e2 hM hB hE hR
      go_enter Tryz.func16, Tryz.ntmps16
      go_wp2_with fail
      refine HR.out.mono ?_; rintro e w1 ⟨rfl, hb1⟩
      have y1 := hid hb1; clear hb1
      go_wp2_with fail
      refine (HP _ (HL.out.call y1.out)).out.mono ?_; rintro e w2 ⟨rfl, hb2⟩
      have y2 := hid (bnext y1.out hb2); clear hb2
      go_wp2_with fail
      go_ret2
      exact ⟨rfl, y2.out⟩
  · rw [if_pos h0, if_pos h0]
    unfold ffX at h0 ⊢
    by_cases hiv : ivrE a = 0
    · rw [if_neg (by rw [hiv]; simp)] at h0 ⊢
      obtain ⟨g1, g2⟩ := ivrE_ok hiv
      rw [g1] at HR
      have ta : (a.toList == [48]) = false := ne_lit g2
      by_cases c1 : reach < 0 ∨ 10000 < reach
      · rw [if_pos c1]
        obtain ⟨p1, h1⟩ : ∃ p, decide (reach < 0) = p := ⟨_, rfl⟩
        obtain ⟨p2, h2⟩ : ∃ p, decide (10000 < reach) = p := ⟨_, rfl⟩
        have hpq : (p1 || p2) = true := by rw [← h1, ← h2]; simpa using c1
        clear h0 c1 ha hL g1 g2 hiv
        cases p1
        case true =>
          clear hpq h2
          go_enter Tryz.func16, Tryz.ntmps16
          go_wp2_with fail
          refine HR.out.mono ?_; rintro e w0 ⟨rfl, hb0⟩
          go_wp2_with fail
          go_ret2
          exact ⟨rfl, hb0⟩
        obtain rfl : p2 = true := by simpa using hpq
        clear hpq
        go_enter Tryz.func16, Tryz.ntmps16
        go_wp2_with fail
        refine HR.out.mono ?_; rintro e w0 ⟨rfl, hb0⟩
        go_wp2_with fail
        go_ret2
        exact ⟨rfl, hb0⟩
      · rw [if_neg c1] at h0
        exact absurd rfl h0
    · rw [if_pos hiv]
      unfold ivrE at hiv ⊢
      obtain ⟨z, hz⟩ : ∃ z, gPE a = z := ⟨_, rfl⟩
      rw [hz] at HR hiv ⊢
      by_cases c0 : z = 0
      case neg =>
        rw [if_pos c0]
        have t0 : (z == 0) = false := by rw [beq_eq_false_iff_ne]; exact c0
        clear hz h0 c0 ha hL hiv
        go_enter Tryz.func16, Tryz.ntmps16
        go_wp2_with fail
        refine HR.out.mono ?_; rintro e w0 ⟨rfl, hb0⟩
        go_wp2_with fail
        go_ret2
        exact ⟨rfl, hb0⟩
      subst c0
      rw [if_neg (by simp)] at hiv ⊢
      by_cases ca : a = ⟨#[48]⟩
      · subst ca
        rw [if_pos rfl]
        clear hz h0 ha hL hiv
        go_enter Tryz.func16, Tryz.ntmps16
        go_wp2_with fail
        refine HR.out.mono ?_; rintro e w0 ⟨rfl, hb0⟩
        go_wp2_with fail
        go_ret2
        exact ⟨rfl, hb0⟩
      · rw [if_neg ca] at hiv
        exact absurd rfl hiv
end Go.Proofs.YtckihjfkafdncaaGreatDoor
namespace Go.Proofs.YtckihjfkafdncaaGreatDoor
open Go.RowKit Go.Shelf
open Go.Lib (decDigits nDigits)
set_option linter.unusedVariables false
set_option linter.unusedSimpArgs false
theorem k_PickU (x : Int) (n : Nat) (h0 : 0 < n) (hn : n ≤ 1000000) (h1 : -9223372036854775808 ≤ x) (h2 : x ≤ 9223372036854775807) :
    ∃ i : Nat, i < n ∧ ∀ w, Calls Tryz.prog 14 #[.int .i64 x, .int .i64 (n : Nat)] w fun e w' => e = .returned (.int .i64 (i : Nat)) ∧ w = w' := by
  have r1 := Int.tmod_lt_of_pos x (show (0 : Int) < n by omega)
  have r2 := Int.lt_tmod_of_pos x (show (0 : Int) < n by omega)
  obtain ⟨r, hr⟩ : ∃ r, x.tmod (n : Int) = r := ⟨_, rfl⟩
  rw [hr] at r1 r2
  have e0 : IntKind.i64.wrap r = r := by rw [IntWalk.i64_in _ ⟨by omega, by omega⟩]
  have hz : ((n : Int) == 0) = false := by rw [beq_eq_false_iff_ne]; omega
  by_cases hneg : r < 0
  · have q0 : decide (r < 0) = true := by simp; omega
    obtain ⟨i, hi⟩ : ∃ i : Nat, r + (n : Int) = i := ⟨(r + n).toNat, by omega⟩
    have e1 : IntKind.i64.wrap (r + (n : Int)) = r + (n : Int) := by rw [IntWalk.i64_in _ ⟨by omega, by omega⟩]
    refine ⟨i, by omega, fun w => ?_⟩
    rw [← hi]
    clear hi hneg
    go_enter Tryz.func14, Tryz.ntmps14
    go_wp2_with fail
    go_ret
    exact ⟨rfl, rfl⟩
  · have q0 : decide (r < 0) = false := by simp; omega
    obtain ⟨i, hi⟩ : ∃ i : Nat, r = i := ⟨r.toNat, by omega⟩
    refine ⟨i, by omega, fun w => ?_⟩
    rw [← hi]
    clear hi hneg
    go_enter Tryz.func14, Tryz.ntmps14
    go_wp2_with fail
    go_ret
    exact ⟨rfl, rfl⟩
end Go.Proofs.YtckihjfkafdncaaGreatDoor
namespace Go.Proofs.YtckihjfkafdncaaGreatDoor
open Go.RowKit Go.Shelf
set_option linter.unusedVariables false
set_option linter.unusedSimpArgs false
theorem mrow_lit (w : World) (L : List (ByteArray × ByteArray)) (n : Nat) (hn : L.length = n) (hL : n ≤ 1000) : MRow (w.alloc (.cells (massC L).toArray 39)) (.slice (some ⟨w.heap.size, 0, none⟩) n n) L := by
  subst hn
  refine ⟨some ⟨w.heap.size, 0, none⟩, L.length, rfl, Nat.le_refl _, by omega, fun i x h => ⟨w.heap.size, 0, rfl, by simp, ?_, ?_⟩⟩
  · rw [Nat.zero_add, (Blk.new w _ _).cell, List.getElem?_toArray]; exact (massC_get h).1
  · rw [Nat.zero_add, (Blk.new w _ _).cell, List.getElem?_toArray]; exact (massC_get h).2
theorem rowZ_lit (w : World) (L : List Int) (n : Nat) (hn : L.length = n) (hL : n ≤ 1000) : Row (w.alloc (.cells (zs L).toArray 3)) (.slice (some ⟨w.heap.size, 0, none⟩) n n) (zs L) :=
  Row.of_blk (Blk.new w _ _) (by rw [zs_length]; exact hn) (by unfold maxLen; omega) (fun i x h => by rw [List.getElem?_toArray]; exact h) (Nat.le_refl _) (by unfold maxLen; omega)
end Go.Proofs.YtckihjfkafdncaaGreatDoor
namespace Go.Proofs.YtckihjfkafdncaaGreatDoor
open Go.RowKit Go.Shelf
open Go.Lib (decDigits nDigits)
set_option linter.unusedVariables false
set_option linter.unusedSimpArgs false
def halfB : ByteArray := ⟨#[49, 47, 50]⟩
theorem pv_a : pkA [3, 5, 5] halfB [⟨#[49]⟩, ⟨#[49]⟩, ⟨#[49]⟩] = (1, true) ∧ pkE [3, 5, 5] halfB [⟨#[49]⟩, ⟨#[49]⟩, ⟨#[49]⟩] = 0 := by decide +kernel
theorem pv_b : flE [1, 1] halfB 2 = 0 ∧ flR [1, 1] halfB 2 = [(⟨#[48]⟩, ⟨#[55, 47, 49, 54]⟩), (⟨#[49]⟩, ⟨#[49, 47, 56]⟩), (⟨#[108, 97, 116, 101]⟩, ⟨#[55, 47, 49, 54]⟩)] := by
  have h : flE [1, 1] halfB 2 = 0 := by decide +kernel
  refine ⟨h, ?_⟩
  unfold flR
  rw [if_pos h]
  have e : fkP (gV (bN (cW halfB)) (bN (qD halfB)) false (2 : Int).toNat) (2 : Int).toNat [1, 1] = [(⟨#[48]⟩, ⟨#[55, 47, 49, 54]⟩), (⟨#[49]⟩, ⟨#[49, 47, 56]⟩), (⟨#[108, 97, 116, 101]⟩, ⟨#[55, 47, 49, 54]⟩)] := by decide +kernel
  rw [e]
  exact List.mergeSort_of_pairwise (by decide +kernel)
theorem rowZ_is (w : World) (L : List Int) (cs : Array Value) (n b : Nat) (hc : cs = (zs L).toArray) (hb : w.heap.size = b) (hn : L.length = n) (hL : n ≤ 1000) : Row (w.alloc (.cells cs 3)) (.slice (some ⟨b, 0, none⟩) n n) (zs L) := by
  subst hc hb
  exact rowZ_lit w L n hn hL
theorem rowB_is (w : World) (L : List ByteArray) (cs : Array Value) (n b : Nat) (hc : cs = (strs L).toArray) (hb : w.heap.size = b) (hn : L.length = n) (hL : n ≤ 1000) : Row (w.alloc (.cells cs 33)) (.slice (some ⟨b, 0, none⟩) n n) (strs L) := by
  subst hc hb
  exact Row.of_blk (Blk.new w _ _) (by rw [strs_length]; exact hn) (by unfold maxLen; omega) (fun i x h => by rw [List.getElem?_toArray]; exact h) (Nat.le_refl _) (by unfold maxLen; omega)
set_option maxRecDepth 100000 in
set_option maxHeartbeats 4000000 in
theorem w_lives25 (w : World) (hL : LayB w) :
    Calls Tryz.prog 8 #[] w fun e w' => e = .returned (.bool true) ∧ Below w.heap.size w w' := by
  have HL := hid hL
  have PP := fun V v u hv hu hV => hid (fd_Peak V v u [3, 5, 5] halfB [⟨#[49]⟩, ⟨#[49]⟩, ⟨#[49]⟩] hv hu (by decide) (by decide) hV)
  have PL := fun V v hv hV => hid (fd_Law V v [1, 1] halfB 2 hv (by decide) hV)
  rw [pv_a.1, pv_a.2] at PP
  rw [pv_b.1, pv_b.2] at PL
  unfold halfB at PP PL
  have PS := fun V u v hu hv => hid (k_SameM V u v [(⟨#[48]⟩, ⟨#[55, 47, 49, 54]⟩), (⟨#[49]⟩, ⟨#[49, 47, 56]⟩), (⟨#[108, 97, 116, 101]⟩, ⟨#[55, 47, 49, 54]⟩)] [(⟨#[48]⟩, ⟨#[55, 47, 49, 54]⟩), (⟨#[49]⟩, ⟨#[49, 47, 56]⟩), (⟨#[108, 97, 116, 101]⟩, ⟨#[55, 47, 49, 54]⟩)] hu hv)
  rw [decide_eq_true rfl] at PS
  clear hL
  have A1 := (Below.refl w.heap.size w).alloc (Nat.le_refl _) (.cells #[.int .i64 3, .int .i64 5, .int .i64 5] 3)
  have A2 := hid (A1.alloc A1.size (.cells #[.string ⟨#[49]⟩, .string ⟨#[49]⟩, .string ⟨#[49]⟩] 33))
  have R1 := hid ((rowZ_is w [3, 5, 5] _ 3 w.heap.size rfl rfl rfl (by omega)).call ((Below.refl _ _).alloc (Nat.le_refl _) (.cells #[.string ⟨#[49]⟩, .string ⟨#[49]⟩, .string ⟨#[49]⟩] 33)))
  have R2 := hid (rowB_is (w.alloc (.cells #[.int .i64 3, .int .i64 5, .int .i64 5] 3)) [⟨#[49]⟩, ⟨#[49]⟩, ⟨#[49]⟩] _ 3 (w.heap.size + 1) rfl (by simp) rfl (by omega))
  clear A1
  go_enter Tryz.func8, Tryz.ntmps8
  go_wp2_with fail
  refine (PP _ _ _ R1.out R2.out (HL.out.call A2.out).l).out.mono ?_; rintro e w1 ⟨rfl, hb1⟩
  have y1 := hid (bnext A2.out hb1)
  clear hb1
  go_wp2_with fail
  have A3 := hid ((Below.refl w1.heap.size w1).alloc (Nat.le_refl _) (.cells #[.int .i64 1, .int .i64 1] 3))
  have R3 := hid (rowZ_is w1 [1, 1] _ 2 w1.heap.size rfl rfl rfl (by omega))
  refine (PL _ _ R3.out (HL.out.call (bnext y1.out A3.out))).out.mono ?_; rintro e w2 ⟨⟨u, rfl, hu⟩, hb2⟩
  have y2 := hid (bnext y1.out (bnext A3.out hb2))
  have U2 := hid hu
  obtain ⟨a2, k2, rfl, -, -, -⟩ := hu.ex
  clear hb2 hu
  have A4 := hid ((Below.refl w2.heap.size w2).alloc (Nat.le_refl _) (.cells #[.string ⟨#[48]⟩, .string ⟨#[55, 47, 49, 54]⟩, .string ⟨#[49]⟩, .string ⟨#[49, 47, 56]⟩, .string ⟨#[108, 97, 116, 101]⟩, .string ⟨#[55, 47, 49, 54]⟩] 39))
  have R4 := hid (mrow_lit w2 [(⟨#[48]⟩, ⟨#[55, 47, 49, 54]⟩), (⟨#[49]⟩, ⟨#[49, 47, 56]⟩), (⟨#[108, 97, 116, 101]⟩, ⟨#[55, 47, 49, 54]⟩)] 3 rfl (by omega))
  go_wp2_with fail
  refine (PS _ _ _ (U2.out.call A4.out) R4.out).out.mono ?_; rintro e w3 ⟨rfl, hb3⟩
  go_wp2_with fail
  go_ret
  exact ⟨rfl, bnext y2.out (bnext A4.out hb3)⟩
end Go.Proofs.YtckihjfkafdncaaGreatDoor
namespace Go.Proofs.YtckihjfkafdncaaGreatDoor
open Go.RowKit
open Go.Lib (decDigits nDigits)
set_option linter.unusedVariables false
def dO (a : ByteArray) : List ByteArray → Option (List Int)
  | [] => some []
  | b :: bs => (if (oT a b).1 = true then some (oT a b).2.1 else none).bind fun x => (dO a bs).map (x :: ·)
theorem nzO_dO {a : ByteArray} : ∀ {c : List Int} {b : List ByteArray}, c.length = b.length → nzO false a c b = (dO a b).map (nzV c)
  | [], [], _ => rfl
  | c :: cs, b :: bs, h => by
    rw [nzO, dO, nzO_dO (c := cs) (b := bs) (by simpa using h)]
    unfold nz1
    simp only [Bool.false_eq_true, if_false]
    by_cases h1 : (oT a b).1 = true
    · rw [if_pos h1, if_pos h1]
      cases dO a bs with
      | none => rfl
      | some xs => rfl
    · rw [if_neg h1, if_neg h1]; rfl
theorem dO_length {a : ByteArray} : ∀ {b : List ByteArray} {xs : List Int}, dO a b = some xs → xs.length = b.length
  | [], xs, h => by cases h; rfl
  | b :: bs, xs, h => by
    rw [dO] at h
    by_cases h1 : (oT a b).1 = true
    · rw [if_pos h1] at h
      cases h2 : dO a bs with
      | none => rw [h2] at h; cases h
      | some r =>
        rw [h2] at h
        cases h
        rw [List.length_cons, dO_length h2, List.length_cons]
    · rw [if_neg h1] at h; cases h
theorem dO_bound {a : ByteArray} : ∀ {b : List ByteArray} {xs : List Int}, (∀ s ∈ b, s.size ≤ 256) → dO a b = some xs → ∀ x ∈ xs, -256 ≤ x ∧ x ≤ 256
  | [], xs, _, h, x, hx => by cases h; simp at hx
  | b :: bs, xs, hs, h, x, hx => by
    rw [dO] at h
    by_cases h1 : (oT a b).1 = true
    · rw [if_pos h1] at h
      cases h2 : dO a bs with
      | none => rw [h2] at h; cases h
      | some r =>
        rw [h2] at h
        cases h
        rcases List.mem_cons.1 hx with rfl | hx
        · exact oT_bound a b (hs b (List.mem_cons_self ..))
        · exact dO_bound (fun s h => hs s (List.mem_cons_of_mem _ h)) h2 x hx
    · rw [if_neg h1] at h; cases h
theorem pkA_dO {c : List Int} {a : ByteArray} {b : List ByteArray} (h : pkE c a b = 0) : pkA c a b = match dO a b with | none => (0, false) | some xs => ((amx (nzV c xs) : Nat), true) := by
  have OK := pkE_ok h
  unfold pkA
  rw [if_pos h, nzO_dO OK.len.symm]
  cases dO a b <;> rfl
theorem pkA_bad {c : List Int} {a : ByteArray} {b : List ByteArray} (h : pkE c a b ≠ 0) : pkA c a b = (0, false) := if_neg h
theorem pkE_len {c d : List Int} {a : ByteArray} {b : List ByteArray} (hl : c.length = d.length) (h1 : ∀ x ∈ c, -4000000 ≤ x ∧ x ≤ 4000000) (h2 : ∀ x ∈ d, -4000000 ≤ x ∧ x ≤ 4000000) : pkE c a b = pkE d a b := by
  have hz : ∀ l : List Int, (∀ x ∈ l, -4000000 ≤ x ∧ x ≤ 4000000) → l.any wildB = false := fun l h => by
    rw [List.any_eq_false]
    intro x hx
    have := h x hx
    unfold wildB
    simp
    omega
  unfold pkE qnE ctE zE
  rw [hl, hz c h1, hz d h2]
theorem nzV_map (c xs : List Int) (s : Int) : nzV (c.map (· + s)) xs = (nzV c xs).map (· + s) := by
  unfold nzV
  induction c generalizing xs with
  | nil => rfl
  | cons x r ih =>
    cases xs with
    | nil => rfl
    | cons y ys =>
      rw [List.map_cons, List.zipWith_cons_cons, List.zipWith_cons_cons, List.map_cons, ih]
      congr 1; omega
theorem nzV_length {c xs : List Int} (h : xs.length = c.length) : (nzV c xs).length = c.length := by unfold nzV; rw [List.length_zipWith, h, Nat.min_self]
structure RzOk (c d e f : List Int) (w : Nat) (s by_ top : Int) : Prop where
  lt : w < c.length
  rng : ∀ x ∈ c, -1000000 < x ∧ x < 1000000
  hs : -1000000 < s ∧ s < 1000000
  hb : 0 ≤ by_ ∧ by_ < 1000
  ht : 2000000 < top ∧ top ≤ 2000061
  hd : d = c.map (· + s)
  he : e = c.set w (c.getD w 0 + by_)
  hf : f = c.set w top
theorem rz_all {c d e f : List Int} {w : Nat} {s by_ top : Int} (h : RzOk c d e f w s by_ top) (a : ByteArray) (b : List ByteArray) :
    pkE d a b = pkE c a b ∧ pkE e a b = pkE c a b ∧ pkE f a b = pkE c a b ∧ pkA d a b = pkA c a b ∧ (pkA e a b).2 = (pkA c a b).2 ∧ (pkA f a b).2 = (pkA c a b).2 ∧
    ((pkE c a b ≠ 0 ∨ (pkA c a b).2 = false) → (pkA c a b).1 = 0 ∧ (pkA e a b).1 = 0 ∧ (pkA f a b).1 = 0) ∧ (pkE c a b ≠ 0 → (pkA c a b).2 = false) ∧
    ((pkA c a b).2 = true → ((pkA e a b).1 = (pkA c a b).1 ∨ (pkA e a b).1 = (w : Int)) ∧ (pkA f a b).1 = (w : Int) ∧ 0 ≤ (pkA c a b).1 ∧ (pkA c a b).1 < (c.length : Int)) := by
  have hr1 : ∀ x ∈ c, -4000000 ≤ x ∧ x ≤ 4000000 := fun x hx => by have := h.rng x hx; omega
  have hgw : c[w]? = some (c.getD w 0) := by rw [List.getD_eq_getElem?_getD, List.getElem?_eq_getElem h.lt]; rfl
  have hcw := h.rng _ (List.mem_of_getElem? hgw)
  have e1 : pkE d a b = pkE c a b := pkE_len (by rw [h.hd, List.length_map]) (fun x hx => by
    rw [h.hd] at hx
    obtain ⟨y, hy, rfl⟩ := List.mem_map.1 hx
    have := h.rng y hy; have := h.hs; omega) hr1
  have e2 : pkE e a b = pkE c a b := pkE_len (by rw [h.he, List.length_set]) (fun x hx => by
    rw [h.he] at hx
    rcases List.mem_or_eq_of_mem_set hx with hx | rfl
    · exact hr1 x hx
    · have := h.hb; omega) hr1
  have e3 : pkE f a b = pkE c a b := pkE_len (by rw [h.hf, List.length_set]) (fun x hx => by
    rw [h.hf] at hx
    rcases List.mem_or_eq_of_mem_set hx with hx | rfl
    · exact hr1 x hx
    · have := h.ht; omega) hr1
  refine ⟨e1, e2, e3, ?_⟩
  by_cases h0 : pkE c a b = 0
  case neg =>
    rw [pkA_bad h0, pkA_bad (by rw [e1]; exact h0), pkA_bad (by rw [e2]; exact h0), pkA_bad (by rw [e3]; exact h0)]
    exact ⟨rfl, rfl, rfl, fun _ => ⟨rfl, rfl, rfl⟩, fun _ => rfl, fun k => by cases k⟩
  have OK := pkE_ok h0
  rw [pkA_dO h0, pkA_dO (e1.trans h0), pkA_dO (e2.trans h0), pkA_dO (e3.trans h0)]
  cases hd : dO a b with
  | none => exact ⟨rfl, rfl, rfl, fun _ => ⟨rfl, rfl, rfl⟩, fun k => absurd h0 k, fun k => by cases k⟩
  | some xs =>
    have hxl : xs.length = c.length := (dO_length hd).trans OK.len
    have hxb := dO_bound (fun s hs => chk_size (OK.b s hs)) hd
    have hcl := OK.pos
    have hne : nzV c xs ≠ [] := fun k => by
      have := nzV_length hxl
      rw [k] at this
      simp at this
      omega
    have hel : e.length = c.length := by rw [h.he, List.length_set]
    have hfl : f.length = c.length := by rw [h.hf, List.length_set]
    obtain ⟨xw, hxw⟩ : ∃ x, xs[w]? = some x := ⟨_, List.getElem?_eq_getElem (by rw [hxl]; exact h.lt)⟩
    have hbw := hxb xw (List.mem_of_getElem? hxw)
    have gz : ∀ {k : Nat} {y : Int}, (nzV e xs)[k]? = some y → ∃ u v, e[k]? = some u ∧ xs[k]? = some v ∧ y = u + v := fun {k y} hy => (nz_get (c := e) (by rw [hxl, hel]) k y).1 hy
    refine ⟨?_, rfl, rfl, fun k => ?_, fun k => absurd h0 k, fun _ => ⟨?_, ?_, ?_, ?_⟩⟩
    · show (((amx (nzV d xs) : Nat) : Int), true) = _
      rw [h.hd, nzV_map, amx_shift]
    · rcases k with k | k
      · exact absurd h0 k
      · cases k
    · have := amx_raise (l := nzV c xs) (m := nzV e xs) (i := w) hne (by rw [nzV_length (c := e) (by rw [hxl, hel]), nzV_length hxl, hel]) (fun x y hx hy => by
        obtain ⟨u, v, g1, g2, rfl⟩ := (nz_get hxl w x).1 hx
        obtain ⟨u', v', g3, g4, rfl⟩ := gz hy
        rw [hxw] at g2 g4
        rw [hgw] at g1
        rw [h.he, List.getElem?_set_self h.lt] at g3
        cases g1; cases g2; cases g3; cases g4
        have := h.hb; omega) (fun k hk => by
        apply Option.ext
        intro y
        rw [nz_get (c := e) (by rw [hxl, hel]), nz_get hxl, h.he, List.getElem?_set_ne (by omega)])
      show ((amx (nzV e xs) : Nat) : Int) = ((amx (nzV c xs) : Nat) : Int) ∨ _
      rcases this with k | k
      · exact .inl (by show ((amx (nzV e xs) : Nat) : Int) = ((amx (nzV c xs) : Nat) : Int); rw [k])
      · exact .inr (by show ((amx (nzV e xs) : Nat) : Int) = _; rw [k])
    · show ((amx (nzV f xs) : Nat) : Int) = _
      have hfx : xs.length = f.length := by rw [hxl, hfl]
      rw [amx_high (l := nzV f xs) (i := w) (v := top + xw) ((nz_get hfx w _).2 ⟨top, xw, by rw [h.hf, List.getElem?_set_self h.lt], hxw, rfl⟩) (fun k x hk hx => by
        obtain ⟨u, v, g1, g2, rfl⟩ := (nz_get hfx k x).1 hx
        rw [h.hf, List.getElem?_set_ne (by omega)] at g1
        have := h.rng u (List.mem_of_getElem? g1)
        have := hxb v (List.mem_of_getElem? g2)
        have := h.ht
        omega)]
    · exact Int.natCast_nonneg _
    · show ((amx (nzV c xs) : Nat) : Int) < _
      have := amx_lt hne
      rw [nzV_length hxl] at this
      omega
end Go.Proofs.YtckihjfkafdncaaGreatDoor
