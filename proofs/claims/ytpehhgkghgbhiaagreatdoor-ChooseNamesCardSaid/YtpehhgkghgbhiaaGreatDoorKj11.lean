/- Texts that the proof rests on, merged: Pc2, Pc3, PcB, Rp11, Rp12, Rp13, Rp14, Rp15, Rb3, R2t, R2u, Rb4, KoA, KoI, KsI, Cc1, CdZ. -/
import Derived.Test.YtpehhgkghgbhiaaGreatDoorKj10
import Derived.WalkLawsBesides
import Derived.Sort.Walk0
import Derived.Deep.DeepCutAuto
import Derived.Deep.AppendLies
import Derived.DataShut
namespace Go.Proofs.YtpehhgkghgbhiaaGreatDoor
open Go.RowKit Go.Shelf
open Go.Lib (decDigits nDigits)
set_option linter.unusedVariables false
set_option linter.unusedSimpArgs false
theorem info_bits : (Tryz.prog.info? 51).map (fun i => (i.zero, i.size, i.bytes)) = some (some (.string ⟨#[]⟩), 1, 16) := by kernel_rfl
/-- A word as a text. -/
def tb (l : List UInt8) : ByteArray := ⟨l.toArray⟩
theorem tb_size (l : List UInt8) : (tb l).size = l.length := by simp [tb, ByteArray.size]
theorem tb_snoc (l : List UInt8) (b : UInt8) : tb l ++ (⟨#[b]⟩ : ByteArray) = tb (l ++ [b]) := by
  apply ba_ext
  simp [tb]
/-- The words behind some words. -/
def nextW (L : List (List UInt8)) : List (List UInt8) := L.flatMap fun l => [l ++ [48], l ++ [49]]
theorem nextW_snoc (L : List (List UInt8)) (l : List UInt8) : nextW (L ++ [l]) = nextW L ++ [l ++ [48], l ++ [49]] := by simp [nextW]
set_option maxRecDepth 100000 in
set_option maxHeartbeats 4000000 in
theorem r3_All (w : World) (n : Nat) (hn : n ≤ 12) :
    Calls Tryz.prog 19 #[.int .i64 (n : Nat)] w fun e w' => (∃ v, e = .returned (.tuple #[v, .int .i64 0]) ∧ Row w' v (strs ((allW n).map tb))) ∧ Below w.heap.size w w' := by
  obtain ⟨i0, hi, hz0, hz1, hz2⟩ := info_parts info_bits
  have t1 : decide ((n : Int) < 0) = false := by simp
  have t2 : decide ((12 : Int) < (n : Int)) = false := by simp; omega
  have R0 : Row (w.alloc (.cells #[.string ⟨#[]⟩] 51)) (.slice (some ⟨w.heap.size, 0, none⟩) 1 1) (strs ((allW 0).map tb)) :=
    Row.of_blk (n := 1) (Blk.new w _ _) rfl (by decide) (fun i x h => by
      rcases i with _ | i
      · simp [allW, strs, tb] at h ⊢; exact h
      · simp [allW, strs, tb] at h) (Nat.le_refl 1) (by decide)
  have HR0 := hid R0
  have B0 := hid ((Below.refl w.heap.size w).alloc (Nat.le_refl _) (.cells #[.string ⟨#[]⟩] 51))
  clear R0
  go_enter Tryz.func19, Tryz.ntmps19
  go_wp2_with fail
  go_loopw [0, 4] (fun s0 s4 wr => ∃ j : Nat, j ≤ n ∧ s0 = .int .i64 ((n - j : Nat) : Int) ∧ Hid (Row wr s4 (strs ((allW j).map tb))) ∧ Hid (Below w.heap.size w wr)) (fun s0 s4 wr => (intOf s0).toNat)
  case atStart => exact ⟨0, Nat.zero_le _, rfl, HR0, B0⟩
  case round =>
    obtain ⟨j, hj, rfl, hR, hB⟩ := hrel
    by_cases hlt : j < n
    · have q1 : decide (0 < n - j) = true := by simp; omega
      have hp : 2 ^ j ≤ 4096 := Nat.le_trans (Nat.pow_le_pow_right (by omega) (show j ≤ 12 by omega)) (by decide)
      have hlen : ((allW j).map tb).length = 2 ^ j := by rw [List.length_map, allW_length]
      obtain ⟨m, hm⟩ : ∃ m, 2 ^ j = m := ⟨_, rfl⟩
      rw [hm] at hp hlen
      obtain ⟨a, c, rfl, c1, c2, -⟩ := hR.out.openS
      rw [hlen] at hR c1 ⊢
      have HLN := hid hlen
      have q2 : (0 : Int) < ((n - j : Nat) : Int) := by omega
      have wn : IntKind.i64.wrap (((n - j : Nat) : Int) - 1) = ((n - (j + 1) : Nat) : Int) := by rw [IntWalk.i64_in _ ⟨by omega, by omega⟩]; omega
      have HWN := hid wn
      obtain ⟨wo, hwo⟩ : ∃ wo : World, wo = wr := ⟨_, rfl⟩
      subst hwo
      have HBO := hid hB.out.size
      clear hlen hm wn
      go_wp2_with fail
      clear q1
      go_loopw [5, 6] (fun s5 s6 wr => ∃ i : Nat, i ≤ m ∧ s6 = .int .i64 (i : Nat) ∧ Hid (wr.ownsRow wo.heap.size 51 1 s5 (2 * i) (strs ((nextW ((allW j).take i)).map tb))) ∧ Hid (Below wo.heap.size wo wr)) (fun s5 s6 wr => m - (intOf s6).toNat)
      case atStart => exact ⟨0, Nat.zero_le _, rfl, ⟨rfl, .inl ⟨rfl, rfl⟩⟩, Below.refl _ _⟩
      case round =>
        obtain ⟨i, hi2, rfl, hO, hB2⟩ := hrel
        by_cases hlt2 : i < m
        · obtain ⟨l, hl⟩ : ∃ l, (allW j)[i]? = some l := ⟨_, List.getElem?_eq_getElem (by have := HLN.out; rw [List.length_map] at this; omega)⟩
          have hll := allW_len (List.mem_of_getElem? hl)
          obtain ⟨g, o, rfl, hg, hc⟩ := hR.out.at (strs_get (show ((allW j).map tb)[i]? = some (tb l) by rw [List.getElem?_map, hl]; rfl))
          have hc2 := (hB2.out.cell (p := ⟨g, o + i, none⟩) hg).trans hc
          have hsz : ¬ 9223372036854775807 < (tb l).size + 1 := by rw [tb_size]; omega
          have HX : Hid ((allW j).take (i + 1) = (allW j).take i ++ [l]) := by show (allW j).take (i + 1) = _; rw [List.take_add_one, hl]; rfl
          have b1 : (0 : Int) ≤ (i : Int) := by omega
          have b2 : (i : Int) < (m : Int) := by omega
          have wi : IntKind.i64.wrap ((i : Int) + 1) = ((i + 1 : Nat) : Int) := by rw [IntWalk.i64_in _ ⟨by omega, by omega⟩]; omega
          have e1 := hid (tb_snoc l 48)
          have e2 := hid (tb_snoc l 49)
          have KK : Hid (∀ w', Below wr.heap.size wr w' → w'.cell? ⟨g, o + i, none⟩ = some (.string (tb l))) := fun w' hb => (hb.cell (p := ⟨g, o + i, none⟩) (Nat.lt_of_lt_of_le hg hB2.out.size)).trans hc2
          obtain ⟨X, hX⟩ : ∃ X, tb l = X := ⟨_, rfl⟩
          rw [hX] at hc2 hsz e1 e2 KK
          clear hl hll hc hX
          go_wp2_with fail
          refine held_plain [0, 1, 2, 3, 4, 5, 6, 7, 8, 9, 10] 3 (fun w' => w'.cell? ⟨g, o + i, none⟩ = some (.string X)) (by kernel_rfl) (by kernel_rfl) (by kernel_rfl) (by kernel_rfl) (KK.out _ (Below.refl _ _).drew) ?_
          iterate 11
            refine ⟨_, rfl, ?_⟩
            apply Exists.intro
            refine ⟨.inl ⟨by rfl, ?_⟩, ?_⟩
            · (intro W' hW'; obtain q1 := hW'; go_simp; try (with_reducible rfl))
            (dsimp only [Act.put]; try simp only [List.setIfInBounds_toArray, List.set_cons_zero, List.set_cons_succ])
          refine held_one (i := 11) (by kernel_rfl) (by rfl) (by rfl) ?_
          go_wp2_with fail
          refine ⟨KK.out _ ((Below.refl _ _).drew.alloc (Nat.le_refl _) _), ?_⟩
          refine held_one (i := 12) (by kernel_rfl) (by rfl) (by rfl) ?_
          have cells : ∀ j u, [Value.string (X ++ ⟨#[48]⟩), .string (X ++ ⟨#[49]⟩)][j]? = some u → (wr.alloc (.cells #[.string (X ++ ⟨#[48]⟩), .string (X ++ ⟨#[49]⟩)] 51)).drew.cell? ((⟨wr.heap.size, 0, none⟩ : Addr).add j) = some u := cell_two_new wr _ _ 51
          refine wpList_append_own _ rfl _ _ 44 rfl wo.heap.size 51 i0 (.string ⟨#[]⟩) 1 16 Tryz.underlying44 hi hz0 hz1 hz2 rfl (by decide) _ (2 * i) _ rfl (hO.out.alloc _) ⟨wr.heap.size, 0, none⟩ 2 2 [.string (X ++ ⟨#[48]⟩), .string (X ++ ⟨#[49]⟩)] rfl rfl cells (by simp [Value.oneCell']) (by unfold maxLen; omega) (by omega) (by have := hB2.out.size; simp; omega) ?_
          intro v' w3 hown3 hgrow3 _
          have hO3 := hid (show w3.ownsRow wo.heap.size 51 1 v' (2 * (i + 1)) (strs ((nextW ((allW j).take (i + 1))).map tb)) by
            rw [HX.out, nextW_snoc, List.map_append, strs_append]
            have h2 : strs ([l ++ [48], l ++ [49]].map tb) = [.string (X ++ ⟨#[48]⟩), .string (X ++ ⟨#[49]⟩)] := by
              rw [e1.out, e2.out]; rfl
            rw [h2]
            exact hown3)
          have hB3 : Hid (Below wo.heap.size wo w3) := by
            refine ((hB2.out.alloc hB2.out.size _).drew).trans ⟨hgrow3.os, hgrow3.tape, hgrow3.output, hgrow3.size, fun k hk => hgrow3.block k (by have := hB2.out.size; simp; omega) (fun e => ?_)⟩
            have := (hO.out.lt k e.symm).1
            omega
          have m0 : w3.cell? ⟨g, o + i, none⟩ = some (.string X) := (hB3.out.cell (p := ⟨g, o + i, none⟩) hg).trans ((hB2.out.cell (p := ⟨g, o + i, none⟩) hg).symm.trans hc2)
          clear hown3 hgrow3 cells
          go_wp2_with fail
          refine ⟨m0, ?_⟩
          refine held_more (is := [13]) (g := 0) (by kernel_rfl) rfl m0 (by kernel_rfl) ?_
          iterate 1
            refine ⟨_, rfl, ?_⟩
            apply Exists.intro
            refine ⟨.inl ⟨by rfl, ?_⟩, ?_⟩
            · (intro W' hW'; obtain q1 := hW'; go_simp; try (with_reducible rfl))
            (dsimp only [Act.put]; try simp only [List.setIfInBounds_toArray, List.set_cons_zero, List.set_cons_succ])
          refine wpAnyH_done (by kernel_rfl) ?_ _
          simp only [Only]
          go_wp2_with fail
          go_roundw
          case rel => exact ⟨i + 1, by omega, by go_num, hO3, hB3⟩
          case measure => simp [intOf] <;> omega
        · obtain rfl : i = m := by omega
          have q1 : decide ((i : Int) < (i : Int)) = false := by simp
          have h := hO.out
          rw [List.take_of_length_le (by have := HLN.out; rw [List.length_map] at this; omega)] at h
          have hrow := hid (show Row _ _ (strs ((allW (j + 1)).map tb)) from Row.of_owns h)
          have hB3 := hid (hB.out.trans (hB2.out.mono HBO.out))
          have wn := HWN.out
          clear hlt2 h
          go_wp2_with fail
          go_roundw
          case rel => exact ⟨j + 1, by omega, rfl, hrow, hB3⟩
          case measure => simp [intOf] <;> omega
    · obtain rfl : j = n := by omega
      have q1 : decide (((j - j : Nat) : Int) > 0) = false := by simp
      have q2 : ((j - j : Nat) : Int) = 0 := by simp
      obtain ⟨a, c, rfl, -⟩ := hR.out.openS
      clear hlt
      go_wp2_with fail
      go_ret2
      exact ⟨⟨_, rfl, hR.out⟩, hB.out⟩
end Go.Proofs.YtpehhgkghgbhiaaGreatDoor
namespace Go.Proofs.YtpehhgkghgbhiaaGreatDoor
open Go.RowKit Go.Maps
open Go.Lib (decDigits nDigits)
set_option linter.unusedVariables false
/-- How often each index was drawn. -/
def cntL (f : Nat → Nat → Nat × Bool) (N : Nat) (W : List (List UInt8)) : List Nat := (List.range N).map fun i => W.countP (drawsI f i)
theorem cntL_len (f : Nat → Nat → Nat × Bool) (N : Nat) (W : List (List UInt8)) : (cntL f N W).length = N := by simp [cntL]
theorem cntL_nil (f : Nat → Nat → Nat × Bool) (N : Nat) : cntL f N [] = List.replicate N 0 := by
  unfold cntL
  apply List.ext_getElem?
  intro i
  by_cases h : i < N <;> simp [h]
theorem cntL_get {f : Nat → Nat → Nat × Bool} {N : Nat} {W : List (List UInt8)} {i : Nat} (h : i < N) : (cntL f N W)[i]? = some (W.countP (drawsI f i)) := by
  unfold cntL
  simp [h]
theorem cntL_done {f : Nat → Nat → Nat × Bool} {N : Nat} {W : List (List UInt8)} {l : List UInt8} {v u : Nat} (h : pdr f 0 1 l = (true, v, u)) (hv : v < N) : cntL f N (W ++ [l]) = (cntL f N W).set v (W.countP (drawsI f v) + 1) := by
  apply List.ext_getElem?
  intro i
  by_cases hi : i < N
  · rw [cntL_get hi, List.countP_append]
    by_cases e : i = v
    · subst e
      rw [List.getElem?_set_self (by rw [cntL_len]; exact hi)]
      simp [drawsI, h]
    · rw [List.getElem?_set_ne (fun h => e h.symm), cntL_get hi]
      have : drawsI f i l = false := by simp [drawsI, h]; exact fun h => e h.symm
      simp [this]
  · rw [List.getElem?_eq_none (by rw [cntL_len]; omega), List.getElem?_eq_none (by rw [List.length_set, cntL_len]; omega)]
theorem cntL_late {f : Nat → Nat → Nat × Bool} {N : Nat} {W : List (List UInt8)} {l : List UInt8} (h : (pdr f 0 1 l).1 = false) : cntL f N (W ++ [l]) = cntL f N W := by
  apply List.ext_getElem?
  intro i
  by_cases hi : i < N
  · rw [cntL_get hi, cntL_get hi, List.countP_append]
    have : drawsI f i l = false := by simp [drawsI, h]
    simp [this]
  · rw [List.getElem?_eq_none (by rw [cntL_len]; omega), List.getElem?_eq_none (by rw [cntL_len]; omega)]
/-- How many were late. -/
def noneL (f : Nat → Nat → Nat × Bool) (W : List (List UInt8)) : Nat := W.countP fun l => !(pdr f 0 1 l).1
theorem noneL_done {f : Nat → Nat → Nat × Bool} {W : List (List UInt8)} {l : List UInt8} (h : (pdr f 0 1 l).1 = true) : noneL f (W ++ [l]) = noneL f W := by
  unfold noneL; rw [List.countP_append]; simp [h]
theorem noneL_late {f : Nat → Nat → Nat × Bool} {W : List (List UInt8)} {l : List UInt8} (h : (pdr f 0 1 l).1 = false) : noneL f (W ++ [l]) = noneL f W + 1 := by
  unfold noneL; rw [List.countP_append]; simp [h]
theorem noneL_le (f : Nat → Nat → Nat × Bool) (W : List (List UInt8)) : noneL f W ≤ W.length := List.countP_le_length
theorem cntL_all {ws : List Nat} (hS : 0 < ws.sum) (n : Nat) {i : Nat} (hi : i < ws.length) : (cntL (pkF ws) ws.length (allW n))[i]? = some (cnt ws (2 ^ n) i) := by
  rw [cntL_get hi, pick_count hS n hi]
theorem noneL_all {ws : List Nat} (hS : 0 < ws.sum) (n : Nat) : noneL (pkF ws) (allW n) = 2 ^ n - lwS ws (2 ^ n) ws.length := pick_late hS n
theorem draw_fit {ws : List Nat} (hS : 0 < ws.sum) (l : List UInt8) : ((pdr (pkF ws) 0 1 l).1 = true → (pdr (pkF ws) 0 1 l).2.1 < ws.length) ∧ ((pdr (pkF ws) 0 1 l).1 = false → (pdr (pkF ws) 0 1 l).2.1 = 0) := by
  obtain ⟨h1, h2, h3⟩ := pdr_end (pkF_nest hS) l 0 1 (by omega)
  refine ⟨fun hd => ?_, h3⟩
  rw [h2 hd]
  have e : pkF ws (bvL l 0) (1 * 2 ^ l.length) = ((pkF ws (bvL l 0) (1 * 2 ^ l.length)).1, true) := by rw [← hd, h1]
  exact ((pkF_iff hS).1 e).1
theorem lawL_step (ws : List Nat) (t i : Nat) : (cnt ws t i = 0 → lawL ws t (i + 1) = lawL ws t i) ∧ (cnt ws t i ≠ 0 → lawL ws t (i + 1) = lawL ws t i ++ [(numB i, shB (cnt ws t i) t)]) := by
  unfold cnt
  constructor
  · intro h
    rw [lawL, if_neg (by omega)]
  · intro h
    rw [lawL, if_pos (by omega)]
    rfl
theorem lawP_has {ws : List Nat} {t N i : Nat} (hi : i < N) (h : cnt ws t i ≠ 0) : hasM (sortM (lawP ws t N)) (numB i, shB (cnt ws t i) t) = true := by
  rw [hasM_iff, sortM_mem]
  have : (numB i, shB (cnt ws t i) t) ∈ lawL ws t N := lawL_mem.2 ⟨i, hi, by unfold cnt at h; omega, rfl⟩
  unfold lawP
  split
  · exact this
  · exact List.mem_append_left _ this
theorem lawP_last {ws : List Nat} {t N : Nat} (h : t - lwS ws t N ≠ 0) : hasM (sortM (lawP ws t N)) (lateB, shB (t - lwS ws t N) t) = true ∧ (lawP ws t N).length = (lawL ws t N).length + 1 := by
  refine ⟨?_, ?_⟩
  · rw [hasM_iff, sortM_mem]
    exact lawP_late.1 h
  · rw [lawP, if_neg h]; simp
end Go.Proofs.YtpehhgkghgbhiaaGreatDoor
namespace Go.Proofs.YtpehhgkghgbhiaaGreatDoor
open Go.RowKit Go.Shelf
open Go.Lib (decDigits nDigits)
set_option linter.unusedVariables false
theorem make_ints (n : Nat) (hn : n ≤ 3000000) (W : World) : (Instr.makeSlice 22 (.int .i64 (n : Int)) (.int .i64 (n : Int))).run Tryz.prog W = .ok (.slice (some ⟨W.heap.size, 0, none⟩) n n) (W.alloc (.cells (madeCells #[.int .i64 0] n) 3)) :=
  run_make_row' (P := Tryz.prog) 22 3 (.int .i64 0) 8 Tryz.underlying22 (by kernel_rfl) rfl .i64 .i64 n (by omega) (by omega) W
theorem tb_list (l : List UInt8) : (tb l).data.toList = l := by simp [tb]
theorem bit_words {n : Nat} {l : List UInt8} (h : l ∈ allW n) (hn : n ≤ 256) : chkE (tb l) = 0 := by
  have h1 : bitB (tb l) = true := by
    unfold bitB
    rw [tb_list, List.all_eq_true]
    intro b hb
    rcases allW_bits h b hb with rfl | rfl <;> decide
  rw [chkE, if_pos h1, if_neg (by rw [tb_size, allW_len h]; omega)]
theorem made_ints (n : Nat) : madeCells #[.int .i64 0] n = (ints .i64 (List.replicate n 0)).toArray := made_zeros .i64 n
end Go.Proofs.YtpehhgkghgbhiaaGreatDoor
namespace Go.Proofs.YtpehhgkghgbhiaaGreatDoor
open Go.RowKit Go.Shelf
open Go.Lib (decDigits nDigits)
set_option linter.unusedVariables false
set_option linter.unusedSimpArgs false
def ltB (x z : ByteArray) : Bool := Op.bytesLess x.toList z.toList
/-- A mass is put ahead of the first whose key is not below. -/
def addL (L : List (ByteArray × ByteArray)) (key p : ByteArray) : List (ByteArray × ByteArray) :=
  if p = ⟨#[48]⟩ then L else L.takeWhile (fun x => ltB x.1 key) ++ (key, p) :: L.dropWhile (fun x => ltB x.1 key)
theorem take_cut {L : List (ByteArray × ByteArray)} {f : ByteArray × ByteArray → Bool} : ∀ {k : Nat}, (∀ j x, j < k → L[j]? = some x → f x = true) → (∀ x, L[k]? = some x → f x = false) → L.takeWhile f = L.take k ∧ L.dropWhile f = L.drop k := by
  induction L with
  | nil => intro k _ _; simp
  | cons a r ih =>
    intro k h1 h2
    cases k with
    | zero =>
      have := h2 a (by simp)
      simp [this]
    | succ k =>
      have ha := h1 0 a (by omega) (by simp)
      obtain ⟨e1, e2⟩ := ih (k := k) (fun j x hj hx => h1 (j + 1) x (by omega) (by simpa using hx)) (fun x hx => h2 x (by simpa using hx))
      simp [ha, e1, e2]
/-- An append of a slice that came in, nil too, at a step of a region that draws its order. -/
theorem step_append_any {P : Program} (w : World) {ops : Array Oper} {o : Oper} {a : Act} {K : Act → World → Prop} {Q : Exit → Act → World → Prop} {E : Prop} (hgd : o.guard = none) (s x : Operand) (t : TypeId)
    (ho : o.op = .call { callee := .builtin .append, args := #[s, x], argTypes := #[t, t] })
    (base : Nat) (e : TypeId) (i : TypeInfo) (z : Value) (size bytes : Nat) (ht : P.underlying t = some (.slice e)) (hi : P.info? e = some i) (hz : i.zero = some z)
    (hsize : i.size = size) (hby : i.bytes = bytes) (hzs : z.cells.size = size) (hsz : 0 < size)
    (v : Value) (n : Nat) (xs : List Value) (hs : a.eval s = v) (hown : w.ownsRow base e size v n xs) (hv : v ≠ .slice none 0 0)
    (ao : Option Addr) (m c : Nat) (news : List Value) (hx : a.eval x = .slice ao m c) (hl : news.length = m * size) (hnews : ∀ j u, news[j]? = some u → ∃ ad, ao = some ad ∧ w.cell? (ad.add j) = some u) (h1 : ∀ u ∈ news, u.oneCell' = true)
    (h63 : n + m ≤ maxLen) (hbytes : (n + m) * bytes ≤ 140737488355328) (hbase : base ≤ w.heap.size)
    (h : ∀ v' w', w'.ownsRow base e size v' (n + m) (xs ++ news) → w.grownBy w' v.ownBlock → v' ≠ .slice none 0 0 → K (a.put o.dst v') w') :
    if Region.wanted o (yielded ops a.tmps) = true then Oper.wp P o a w K Q else E := by
  have hw : Region.wanted o (yielded ops a.tmps) = true := by simp [Region.wanted, hgd]
  rw [if_pos hw]
  have key : ∃ v' w', (Builtin.append_ #[t, t] o.type #[v, .slice ao m c]).run P w = .ok v' w' ∧ w'.ownsRow base e size v' (n + m) (xs ++ news) ∧ w.grownBy w' v.ownBlock ∧ v' ≠ .slice none 0 0 := by
    cases ao with
    | some ad =>
      obtain ⟨v', w', hr, k1, k2, k3, -⟩ := run_append_own_at (P := P) w base t o.type e i z size bytes ht hi hz hsize hby hzs hsz v n xs hown ad m c news hl (fun j u hu => by obtain ⟨ad', e', hc⟩ := hnews j u hu; cases e'; exact hc) h1 h63 hbytes hbase
      exact ⟨v', w', hr, k1, k2, fun e => hv (k3.1 e).1⟩
    | none =>
      have hn : news = [] := by
        cases news with
        | nil => rfl
        | cons u r => obtain ⟨ad, e, _⟩ := hnews 0 u rfl; cases e
      subst hn
      have hm : m = 0 := by
        rcases Nat.eq_zero_or_pos m with h | h
        · exact h
        · have := Nat.mul_pos h hsz; simp at hl; omega
      subst hm
      refine ⟨v, w, ?_, by simpa using hown, ⟨rfl, rfl, rfl, Nat.le_refl _, fun _ _ _ => rfl⟩, hv⟩
      rcases hown.2 with ⟨e, _⟩ | ⟨g, cap, cur, rfl, hb, hg, h1', h2', h3', h4'⟩
      · exact absurd e hv
      · simp [Builtin.append_, run_underlying ht, sizeOf, typeInfo, hi, Builtin.lenOf, Builtin.firstCells, loadCells, loadCellsFrom, storeCells, h1']
  obtain ⟨v', w', hr, h2, h3, h4⟩ := key
  unfold Oper.wp execOp
  simp only [ho, resolve, invoke, builtin, Sem.run_bind, Sem.run_pure, Result.andThen_ok, List.map_toArray, List.map_cons, List.map_nil, hs, hx, hr]
  exact h v' w' h2 h3 h4
theorem massC_one (M : List (ByteArray × ByteArray)) : ∀ u ∈ massC M, u.oneCell' = true := by
  intro u hu
  obtain ⟨x, _, hx⟩ := List.mem_flatMap.1 hu
  simp at hx
  rcases hx with rfl | rfl <;> rfl
theorem massC_append_one (M : List (ByteArray × ByteArray)) (x y : ByteArray) : massC (M ++ [(x, y)]) = massC M ++ [.string x, .string y] := massC_append _ _
theorem massC_cells {W : World} {g : Nat} : ∀ {M : List (ByteArray × ByteArray)} {O : Nat}, (∀ (i : Nat) (y : ByteArray × ByteArray), M[i]? = some y → W.cell? ⟨g, O + 2 * i, none⟩ = some (.string y.1) ∧ W.cell? ⟨g, O + 2 * i + 1, none⟩ = some (.string y.2)) → ∀ (j : Nat) (u : Value), (massC M)[j]? = some u → W.cell? ⟨g, O + j, none⟩ = some u := by
  intro M
  induction M with
  | nil => intro O _ j u hu; simp [massC] at hu
  | cons q r ih =>
    intro O h j u hu
    have e : massC (q :: r) = .string q.1 :: .string q.2 :: massC r := rfl
    rw [e] at hu
    match j, hu with
    | 0, hu => simp at hu; subst hu; exact (h 0 q rfl).1
    | 1, hu => simp at hu; subst hu; exact (h 0 q rfl).2
    | j + 2, hu =>
      have := ih (O := O + 2) (fun i y hy => by
        have := h (i + 1) y (by simpa using hy)
        rw [show O + 2 * (i + 1) = O + 2 + 2 * i by omega] at this
        exact this) j u (by simpa using hu)
      rw [show O + (j + 2) = O + 2 + j by omega]
      exact this
theorem mass_at {W : World} {B : Nat} {x y : ByteArray} {t : TypeId} {fr : Nat × Nat} (h : W.heap[B]? = some (.cells #[.string x, .string y] t fr)) : ∀ (j : Nat) (u : Value), [Value.string x, Value.string y][j]? = some u → ∃ ad, some (⟨B, 0, none⟩ : Addr) = some ad ∧ W.cell? (ad.add j) = some u := fun j u hu => ⟨_, rfl, World.news_of_block h j u hu⟩
theorem own_below2 {w0 W w3 : World} {t : TypeId} {z : Nat} {v : Value} {m : Nat} {vs : List Value} (h : W.ownsRow w0.heap.size t z v m vs) (h0 : Below w0.heap.size w0 W) (hg : W.grownBy w3 v.ownBlock) : Below w0.heap.size w0 w3 := by
  refine h0.trans ⟨hg.os, hg.tape, hg.output, hg.size, fun j hj => hg.block j (Nat.lt_of_lt_of_le hj h0.size) fun e => ?_⟩
  have := (h.lt j e.symm).1
  omega
theorem own_zero_at {w X : World} {B : Nat} {t : TypeId} (hB : X.heap.size = B) (h : w.heap.size ≤ X.heap.size) : (X.alloc (.cells #[] t)).ownsRow w.heap.size t 2 (.slice (some ⟨B, 0, none⟩) 0 0) 0 [] := by subst hB; exact World.ownsRow_made _ _ 0 h (by unfold maxLen; omega) rfl
set_option maxRecDepth 100000 in
set_option maxHeartbeats 2000000 in
theorem r4_Add (w : World) (v : Value) (L : List (ByteArray × ByteArray)) (key p : ByteArray) (hv : MRow w v L) (hn : L.length ≤ 1000) :
    Calls Tryz.prog 116 #[v, .string key, .string p] w fun e w' => (∃ u, e = .returned u ∧ MRow w' u (addL L key p)) ∧ Below w.heap.size w w' := by
  obtain ⟨i0, hi, hz0, hz1, hz2⟩ := info_parts info_mass
  have HV := hid hv
  obtain ⟨a, c, rfl, h1, h2, h3⟩ := hv.ex
  obtain ⟨n, hN⟩ : ∃ n, L.length = n := ⟨_, rfl⟩
  rw [hN] at h1 HV hn ⊢
  have HN := hid hN; have H3 := hid h3
  clear hv h3 hN
  by_cases hp : p = ⟨#[48]⟩
  · have e : Hid (addL L key p = L) := by show addL L key p = L; rw [addL, if_pos hp]
    rw [e.out]
    have q0 : (p.toList == [48]) = true := by subst hp; rw [Lib.toList_data]; rfl
    clear hp e
    go_enter Tryz.func116, Tryz.ntmps116
    go_wp2_with fail
    go_ret
    exact ⟨⟨_, rfl, HV.out⟩, Below.refl _ _⟩
  · have E : Hid (addL L key p = L.takeWhile (fun x => ltB x.1 key) ++ (key, p) :: L.dropWhile (fun x => ltB x.1 key)) := by show addL L key p = _; rw [addL, if_neg hp]
    have q0 : (p.toList == [48]) = false := ne_lit hp
    rw [E.out]
    clear hp E
    go_enter Tryz.func116, Tryz.ntmps116
    go_wp2_with fail
    go_loop [7] (fun ii => ∃ k : Nat, ii = .int .i64 k ∧ k ≤ n ∧ Hid (∀ j x, j < k → L[j]? = some x → ltB x.1 key = true)) (fun ii => n - (intOf ii).toNat)
    case atStart => exact ⟨0, rfl, Nat.zero_le _, fun j x hj => absurd hj (by omega)⟩
    case round =>
      obtain ⟨k, rfl, hk, hI⟩ := hrel
      have c1 : (0 : Int) ≤ (k : Int) := by omega
      by_cases hlt : k < n
      · obtain ⟨x, hx⟩ : ∃ x, L[k]? = some x := ⟨_, List.getElem?_eq_getElem (by rw [HN.out]; exact hlt)⟩
        obtain ⟨g, o, rfl, hg, hc, -⟩ := H3.out k x hx
        have HX := hid hx
        rw [Nat.mul_comm 2 k] at hc
        have c2 : (k : Int) < (n : Int) := by omega
        have wi : IntKind.i64.wrap ((k : Int) + 1) = ((k + 1 : Nat) : Int) := by rw [IntWalk.i64_in _ ⟨by omega, by omega⟩]; omega
        obtain ⟨lb, hlb⟩ : ∃ b, Op.bytesLess x.1.toList key.toList = b := ⟨_, rfl⟩
        have HLB := hid (show ltB x.1 key = lb from hlb)
        clear hx
        have SRC1 : Hid (∀ W, Below w.heap.size w W → ∀ j u, (massC (L.take k))[j]? = some u → ∃ ad, some (⟨g, o, none⟩ : Addr) = some ad ∧ W.cell? (ad.add j) = some u) := fun W hW j u hu => by
          refine ⟨_, rfl, ?_⟩
          rw [Addr.add_lit]
          refine massC_cells (fun i y hy => ?_) j u hu
          rw [List.getElem?_take] at hy
          split at hy
          · obtain ⟨g', o', e, k0, k1, k2⟩ := H3.out i y hy
            simp only [Option.some.injEq, Addr.mk.injEq] at e
            obtain ⟨rfl, rfl, -⟩ := e
            exact ⟨(hW.cell (p := ⟨g, _, none⟩) hg).trans k1, (hW.cell (p := ⟨g, _, none⟩) hg).trans k2⟩
          · cases hy
        have SRC2 : Hid (∀ W, Below w.heap.size w W → ∀ j u, (massC (L.drop k))[j]? = some u → ∃ ad, some (⟨g, o + k * 2, none⟩ : Addr) = some ad ∧ W.cell? (ad.add j) = some u) := fun W hW j u hu => by
          refine ⟨_, rfl, ?_⟩
          rw [Addr.add_lit]
          refine massC_cells (fun i y hy => ?_) j u hu
          rw [List.getElem?_drop] at hy
          obtain ⟨g', o', e, k0, k1, k2⟩ := H3.out _ y hy
          simp only [Option.some.injEq, Addr.mk.injEq] at e
          obtain ⟨rfl, rfl, -⟩ := e
          rw [show o + 2 * (k + i) = o + k * 2 + 2 * i by omega] at k1 k2
          exact ⟨(hW.cell (p := ⟨g, _, none⟩) hg).trans k1, (hW.cell (p := ⟨g, _, none⟩) hg).trans k2⟩
        have SL1 : Hid ((massC (L.take k)).length = k * 2) := by show _ = _; rw [massC_length, List.length_take_of_le (by rw [HN.out]; omega)]
        have SL2 : Hid ((massC (L.drop k)).length = (n - k) * 2) := by show _ = _; rw [massC_length, List.length_drop, HN.out]
        have MZ2 : Hid (((w.alloc (.cells #[] 41)).alloc (.cells #[.string key, .string p] 41)).drew.heap[w.heap.size + 1]? = some (.cells #[.string key, .string p] 41 (0, 0))) := by
          have := heap_alloc_new (w.alloc (.cells #[] 41)) (.cells #[.string key, .string p] 41)
          rw [show (w.alloc (.cells #[] 41)).heap.size = w.heap.size + 1 from by simp] at this
          exact this
        have MZ3 : Hid (((w.alloc (.cells #[.string key, .string p] 41)).alloc (.cells #[] 41)).drew.heap[w.heap.size]? = some (.cells #[.string key, .string p] 41 (0, 0))) := (heap_alloc_old (w.alloc (.cells #[.string key, .string p] 41)) (.cells #[] 41) (by simp)).trans (heap_alloc_new w (.cells #[.string key, .string p] 41))
        have d1 : (k : Int) ≤ (c : Int) := by omega
        have d2 : (k : Int) ≤ (n : Int) := by omega
        have d3 : (n : Int) ≤ (c : Int) := by omega
        have d4 : ¬ c = k := by omega
        cases lb
        · have TK := hid (take_cut (L := L) (f := fun x => ltB x.1 key) (k := k) hI.out (fun y hy => by have := HX.out; rw [hy] at this; cases this; exact HLB.out))
          go_wp2_with fail
          go_region_held3 (fun _ => True) (first | trivial)
            (first
              | (refine step_append_any _ rfl _ _ _ rfl w.heap.size 41 i0 _ 2 32 Tryz.underlying27 hi hz0 hz1 hz2 rfl (by decide) (.slice (some ⟨_, 0, none⟩) 0 0) 0 [] rfl (by first | exact (own_zero_at rfl (Nat.le_refl _)).drew | exact ((own_zero_at rfl (Nat.le_refl _)).alloc _).drew | exact (own_zero_at (by simp) (by simp)).drew) (by intro e; cases e) (some ⟨g, o, none⟩) k c (massC (L.take k)) rfl SL1.out (SRC1.out _ (by first | exact ((Below.refl _ _).alloc (Nat.le_refl _) _).drew | exact (((Below.refl _ _).alloc (Nat.le_refl _) _).alloc (by simp) _).drew)) (massC_one _) (by unfold maxLen; omega) (by omega) (by simp <;> omega) ?_; intro v1 w1 hown1 hg1 hne1; have B1 : Hid (Below w.heap.size w w1) := own_below2 (w0 := w) (w3 := w1) (by first | exact (own_zero_at rfl (Nat.le_refl _)).drew | exact ((own_zero_at rfl (Nat.le_refl _)).alloc _).drew | exact (own_zero_at (by simp) (by simp)).drew) (by first | exact ((Below.refl _ _).alloc (Nat.le_refl _) _).drew | exact (((Below.refl _ _).alloc (Nat.le_refl _) _).alloc (by simp) _).drew) hg1; have O1 := hid (show w1.ownsRow w.heap.size 41 2 v1 k (massC (L.take k)) from by rw [Nat.zero_add] at hown1; exact hown1); have NE1 := hid hne1; have HG1 := hid hg1; clear hown1 hg1 hne1)
              | (refine step_append_any _ rfl _ _ _ rfl w.heap.size 41 i0 _ 2 32 Tryz.underlying27 hi hz0 hz1 hz2 rfl (by decide) v1 k _ rfl (by first | exact O1.out | exact O1.out.alloc _) NE1.out (some ⟨_, 0, none⟩) 1 1 [.string key, .string p] rfl rfl (mass_at (by first | exact heap_alloc_new _ _ | exact (HG1.out.block (w.heap.size + 1) (by simp <;> omega) (by simp [Value.ownBlock])).trans MZ2.out | exact (HG1.out.block w.heap.size (by simp <;> omega) (by simp [Value.ownBlock])).trans MZ3.out)) (by simp [Value.oneCell']) (by unfold maxLen; omega) (by omega) (by first | exact B1.out.size | exact (B1.out.alloc B1.out.size _).size) ?_; intro v2 w2 hown2 hg2 hne2; have B2 : Hid (Below w.heap.size w w2) := own_below2 (w0 := w) (w3 := w2) (by first | exact O1.out | exact O1.out.alloc _) (by first | exact B1.out | exact B1.out.alloc B1.out.size _) hg2; have O2 := hid hown2; have NE2 := hid hne2; clear hown2 hg2 hne2)
              | (refine step_append_any _ rfl _ _ _ rfl w.heap.size 41 i0 _ 2 32 Tryz.underlying27 hi hz0 hz1 hz2 rfl (by decide) v2 (k + 1) _ rfl O2.out NE2.out (some ⟨g, o + k * 2, none⟩) (n - k) (c - k) (massC (L.drop k)) rfl SL2.out (SRC2.out _ B2.out) (massC_one _) (by unfold maxLen; omega) (by omega) (by exact B2.out.size) ?_; intro v3 w3 hown3 hg3 hne3; have O3 := hid hown3; have B3 : Hid (Below w.heap.size w w3) := own_below2 (w0 := w) (w3 := w3) O2.out B2.out hg3; clear hown3 hg3 hne3))
          all_goals
            have OF := O3.out
            rw [← massC_append_one, ← massC_append] at OF
            go_wp2_with fail
            all_goals
              go_ret
              refine ⟨⟨_, rfl, ?_⟩, B3.out⟩
              rw [TK.out.1, TK.out.2]
              have := MRow.of_owns OF
              rwa [List.append_assoc] at this

        · go_wp2_with fail
          go_round
          case rel =>
            refine ⟨k + 1, by go_num, by omega, fun j y hj hy => ?_⟩
            rcases Nat.lt_or_ge j k with h | h
            · exact hI.out j y h hy
            · obtain rfl : j = k := by omega
              have := HX.out; rw [hy] at this; cases this; exact HLB.out
          case measure => simp [intOf] <;> omega
      · obtain rfl : k = n := by omega
        have SRC1 : Hid (∀ W, Below w.heap.size w W → ∀ j u, (massC (L.take k))[j]? = some u → ∃ ad, a = some ad ∧ W.cell? (ad.add j) = some u) := fun W hW j u hu => by
          obtain ⟨x0, hx0⟩ : ∃ x0, L[0]? = some x0 := by
            cases hL : L with
            | nil => rw [hL] at hu; simp [massC] at hu
            | cons x r => exact ⟨x, rfl⟩
          obtain ⟨g, o, rfl, hg, -, -⟩ := H3.out 0 x0 hx0
          refine ⟨_, rfl, ?_⟩
          rw [Addr.add_lit]
          refine massC_cells (fun i y hy => ?_) j u hu
          rw [List.getElem?_take] at hy
          split at hy
          · obtain ⟨g', o', e, k0, k1, k2⟩ := H3.out i y hy
            simp only [Option.some.injEq, Addr.mk.injEq] at e
            obtain ⟨rfl, rfl, -⟩ := e
            exact ⟨(hW.cell (p := ⟨g, _, none⟩) hg).trans k1, (hW.cell (p := ⟨g, _, none⟩) hg).trans k2⟩
          · cases hy
        have DN : Hid (L.drop k = []) := List.drop_eq_nil_of_le (by rw [HN.out]; exact Nat.le_refl _)
        have SRC2 : Hid (∀ (ao : Option Addr) W, Below w.heap.size w W → ∀ j u, (massC (L.drop k))[j]? = some u → ∃ ad, ao = some ad ∧ W.cell? (ad.add j) = some u) := fun ao W hW j u hu => by
          rw [DN.out] at hu; simp [massC] at hu
        have SL1 : Hid ((massC (L.take k)).length = k * 2) := by show _ = _; rw [massC_length, List.length_take_of_le (by rw [HN.out]; exact Nat.le_refl _)]
        have SL2 : Hid ((massC (L.drop k)).length = 0 * 2) := by show _ = _; rw [DN.out]; rfl
        have MZ2 : Hid (((w.alloc (.cells #[] 41)).alloc (.cells #[.string key, .string p] 41)).drew.heap[w.heap.size + 1]? = some (.cells #[.string key, .string p] 41 (0, 0))) := by
          have := heap_alloc_new (w.alloc (.cells #[] 41)) (.cells #[.string key, .string p] 41)
          rw [show (w.alloc (.cells #[] 41)).heap.size = w.heap.size + 1 from by simp] at this
          exact this
        have MZ3 : Hid (((w.alloc (.cells #[.string key, .string p] 41)).alloc (.cells #[] 41)).drew.heap[w.heap.size]? = some (.cells #[.string key, .string p] 41 (0, 0))) := (heap_alloc_old (w.alloc (.cells #[.string key, .string p] 41)) (.cells #[] 41) (by simp)).trans (heap_alloc_new w (.cells #[.string key, .string p] 41))
        have d1 : (k : Int) ≤ (c : Int) := by omega
        have d2 : (k : Int) ≤ (k : Int) := by omega
        have TK := hid (take_cut (L := L) (f := fun x => ltB x.1 key) (k := k) hI.out (fun y hy => by rw [List.getElem?_eq_none (by rw [HN.out]; exact Nat.le_refl _)] at hy; cases hy))
        cases a
        · go_wp2_with fail
          go_region_held3 (fun _ => True) (first | trivial)
            (first
              | (refine step_append_any _ rfl _ _ _ rfl w.heap.size 41 i0 _ 2 32 Tryz.underlying27 hi hz0 hz1 hz2 rfl (by decide) (.slice (some ⟨_, 0, none⟩) 0 0) 0 [] rfl (by first | exact (own_zero_at rfl (Nat.le_refl _)).drew | exact ((own_zero_at rfl (Nat.le_refl _)).alloc _).drew | exact (own_zero_at (by simp) (by simp)).drew) (by intro e; cases e) _ k c (massC (L.take k)) rfl SL1.out (SRC1.out _ (by first | exact ((Below.refl _ _).alloc (Nat.le_refl _) _).drew | exact (((Below.refl _ _).alloc (Nat.le_refl _) _).alloc (by simp) _).drew)) (massC_one _) (by unfold maxLen; omega) (by omega) (by simp <;> omega) ?_; intro v1 w1 hown1 hg1 hne1; have B1 : Hid (Below w.heap.size w w1) := own_below2 (w0 := w) (w3 := w1) (by first | exact (own_zero_at rfl (Nat.le_refl _)).drew | exact ((own_zero_at rfl (Nat.le_refl _)).alloc _).drew | exact (own_zero_at (by simp) (by simp)).drew) (by first | exact ((Below.refl _ _).alloc (Nat.le_refl _) _).drew | exact (((Below.refl _ _).alloc (Nat.le_refl _) _).alloc (by simp) _).drew) hg1; have O1 := hid (show w1.ownsRow w.heap.size 41 2 v1 k (massC (L.take k)) from by rw [Nat.zero_add] at hown1; exact hown1); have NE1 := hid hne1; have HG1 := hid hg1; clear hown1 hg1 hne1)
              | (refine step_append_any _ rfl _ _ _ rfl w.heap.size 41 i0 _ 2 32 Tryz.underlying27 hi hz0 hz1 hz2 rfl (by decide) v1 k _ rfl (by first | exact O1.out | exact O1.out.alloc _) NE1.out (some ⟨_, 0, none⟩) 1 1 [.string key, .string p] rfl rfl (mass_at (by first | exact heap_alloc_new _ _ | exact (HG1.out.block (w.heap.size + 1) (by simp <;> omega) (by simp [Value.ownBlock])).trans MZ2.out | exact (HG1.out.block w.heap.size (by simp <;> omega) (by simp [Value.ownBlock])).trans MZ3.out)) (by simp [Value.oneCell']) (by unfold maxLen; omega) (by omega) (by first | exact B1.out.size | exact (B1.out.alloc B1.out.size _).size) ?_; intro v2 w2 hown2 hg2 hne2; have B2 : Hid (Below w.heap.size w w2) := own_below2 (w0 := w) (w3 := w2) (by first | exact O1.out | exact O1.out.alloc _) (by first | exact B1.out | exact B1.out.alloc B1.out.size _) hg2; have O2 := hid hown2; have NE2 := hid hne2; clear hown2 hg2 hne2)
              | (refine step_append_any _ rfl _ _ _ rfl w.heap.size 41 i0 _ 2 32 Tryz.underlying27 hi hz0 hz1 hz2 rfl (by decide) v2 (k + 1) _ rfl O2.out NE2.out _ 0 _ (massC (L.drop k)) rfl SL2.out (SRC2.out _ _ B2.out) (massC_one _) (by unfold maxLen; omega) (by omega) (by exact B2.out.size) ?_; intro v3 w3 hown3 hg3 hne3; have O3 := hid hown3; have B3 : Hid (Below w.heap.size w w3) := own_below2 (w0 := w) (w3 := w3) O2.out B2.out hg3; clear hown3 hg3 hne3))
          all_goals
            have OF := O3.out
            rw [← massC_append_one, ← massC_append] at OF
            go_wp2_with fail
            all_goals
              go_ret
              refine ⟨⟨_, rfl, ?_⟩, B3.out⟩
              rw [TK.out.1, TK.out.2]
              have := MRow.of_owns OF
              rwa [List.append_assoc] at this

        · go_wp2_with fail
          go_region_held3 (fun _ => True) (first | trivial)
            (first
              | (refine step_append_any _ rfl _ _ _ rfl w.heap.size 41 i0 _ 2 32 Tryz.underlying27 hi hz0 hz1 hz2 rfl (by decide) (.slice (some ⟨_, 0, none⟩) 0 0) 0 [] rfl (by first | exact (own_zero_at rfl (Nat.le_refl _)).drew | exact ((own_zero_at rfl (Nat.le_refl _)).alloc _).drew | exact (own_zero_at (by simp) (by simp)).drew) (by intro e; cases e) _ k c (massC (L.take k)) rfl SL1.out (SRC1.out _ (by first | exact ((Below.refl _ _).alloc (Nat.le_refl _) _).drew | exact (((Below.refl _ _).alloc (Nat.le_refl _) _).alloc (by simp) _).drew)) (massC_one _) (by unfold maxLen; omega) (by omega) (by simp <;> omega) ?_; intro v1 w1 hown1 hg1 hne1; have B1 : Hid (Below w.heap.size w w1) := own_below2 (w0 := w) (w3 := w1) (by first | exact (own_zero_at rfl (Nat.le_refl _)).drew | exact ((own_zero_at rfl (Nat.le_refl _)).alloc _).drew | exact (own_zero_at (by simp) (by simp)).drew) (by first | exact ((Below.refl _ _).alloc (Nat.le_refl _) _).drew | exact (((Below.refl _ _).alloc (Nat.le_refl _) _).alloc (by simp) _).drew) hg1; have O1 := hid (show w1.ownsRow w.heap.size 41 2 v1 k (massC (L.take k)) from by rw [Nat.zero_add] at hown1; exact hown1); have NE1 := hid hne1; have HG1 := hid hg1; clear hown1 hg1 hne1)
              | (refine step_append_any _ rfl _ _ _ rfl w.heap.size 41 i0 _ 2 32 Tryz.underlying27 hi hz0 hz1 hz2 rfl (by decide) v1 k _ rfl (by first | exact O1.out | exact O1.out.alloc _) NE1.out (some ⟨_, 0, none⟩) 1 1 [.string key, .string p] rfl rfl (mass_at (by first | exact heap_alloc_new _ _ | exact (HG1.out.block (w.heap.size + 1) (by simp <;> omega) (by simp [Value.ownBlock])).trans MZ2.out | exact (HG1.out.block w.heap.size (by simp <;> omega) (by simp [Value.ownBlock])).trans MZ3.out)) (by simp [Value.oneCell']) (by unfold maxLen; omega) (by omega) (by first | exact B1.out.size | exact (B1.out.alloc B1.out.size _).size) ?_; intro v2 w2 hown2 hg2 hne2; have B2 : Hid (Below w.heap.size w w2) := own_below2 (w0 := w) (w3 := w2) (by first | exact O1.out | exact O1.out.alloc _) (by first | exact B1.out | exact B1.out.alloc B1.out.size _) hg2; have O2 := hid hown2; have NE2 := hid hne2; clear hown2 hg2 hne2)
              | (refine step_append_any _ rfl _ _ _ rfl w.heap.size 41 i0 _ 2 32 Tryz.underlying27 hi hz0 hz1 hz2 rfl (by decide) v2 (k + 1) _ rfl O2.out NE2.out _ 0 _ (massC (L.drop k)) rfl SL2.out (SRC2.out _ _ B2.out) (massC_one _) (by unfold maxLen; omega) (by omega) (by exact B2.out.size) ?_; intro v3 w3 hown3 hg3 hne3; have O3 := hid hown3; have B3 : Hid (Below w.heap.size w w3) := own_below2 (w0 := w) (w3 := w3) O2.out B2.out hg3; clear hown3 hg3 hne3))
          all_goals
            have OF := O3.out
            rw [← massC_append_one, ← massC_append] at OF
            go_wp2_with fail
            all_goals
              go_ret
              refine ⟨⟨_, rfl, ?_⟩, B3.out⟩
              rw [TK.out.1, TK.out.2]
              have := MRow.of_owns OF
              rwa [List.append_assoc] at this
end Go.Proofs.YtpehhgkghgbhiaaGreatDoor
namespace Go.Proofs.YtpehhgkghgbhiaaGreatDoor
open Go.RowKit Go.Shelf
open Go.Lib (decDigits nDigits)
set_option linter.unusedVariables false
theorem ltB_iff {x z : ByteArray} : ltB x z = true ↔ ¬ z.data.toList ≤ x.data.toList := by
  unfold ltB
  rw [bytesLess_eq, Lib.toList_data, Lib.toList_data, decide_eq_true_eq]
  exact List.not_le.symm
theorem drop_while_ge {key : ByteArray} : ∀ {L : List (ByteArray × ByteArray)}, L.Pairwise (fun p q => leB (keyL p) (keyL q) = true) → ∀ x ∈ L.dropWhile (fun x => ltB x.1 key), leB key.data.toList (keyL x) = true := by
  intro L
  induction L with
  | nil => intro _ x hx; simp at hx
  | cons a r ih =>
    intro h x hx
    obtain ⟨h1, h2⟩ := List.pairwise_cons.1 h
    by_cases ha : ltB a.1 key = true
    · rw [List.dropWhile_cons, if_pos ha] at hx
      exact ih h2 x hx
    · rw [List.dropWhile_cons, if_neg ha] at hx
      have hle : leB key.data.toList (keyL a) = true := by
        have := mt ltB_iff.2 ha
        unfold leB
        rw [decide_eq_true_eq]
        exact Decidable.not_not.1 this
      rcases List.mem_cons.1 hx with rfl | hx
      · exact hle
      · exact leB_trans _ _ _ hle (h1 x hx)
theorem mem_tw {α : Type} {f : α → Bool} {x : α} : ∀ {L : List α}, x ∈ L.takeWhile f → f x = true := by
  intro L
  induction L with
  | nil => intro h; simp at h
  | cons a r ih =>
    intro h
    by_cases ha : f a = true
    · rw [List.takeWhile_cons, if_pos ha] at h
      rcases List.mem_cons.1 h with rfl | h
      · exact ha
      · exact ih h
    · rw [List.takeWhile_cons, if_neg ha] at h; simp at h
theorem pw_inj {L : List (ByteArray × ByteArray)} : L.Pairwise (fun x y => x.1 ≠ y.1) → ∀ x ∈ L, ∀ y ∈ L, x.1 = y.1 → x = y := by
  induction L with
  | nil => intro _ x hx; simp at hx
  | cons a r ih =>
    intro h x hx y hy e
    obtain ⟨h1, h2⟩ := List.pairwise_cons.1 h
    rcases List.mem_cons.1 hx with e1 | hx' <;> rcases List.mem_cons.1 hy with e2 | hy'
    · rw [e1, e2]
    · rw [e1] at e; exact absurd e (h1 y hy')
    · rw [e2] at e; exact absurd e.symm (h1 x hx')
    · exact ih h2 x hx' y hy' e
theorem take_while_lt {key : ByteArray} {L : List (ByteArray × ByteArray)} : ∀ x ∈ L.takeWhile (fun x => ltB x.1 key), leB (keyL x) key.data.toList = true := fun x hx => by
  have h := mem_tw hx
  have := ltB_iff.1 h
  unfold leB
  rw [decide_eq_true_eq]
  rcases List.le_total (keyL x) key.data.toList with h' | h'
  · exact h'
  · exact absurd h' this
theorem addL_sort {L : List (ByteArray × ByteArray)} {key p : ByteArray} (hp : p ≠ ⟨#[48]⟩) (hk : ∀ x ∈ L, x.1 ≠ key) (hn : L.Pairwise (fun x y => x.1 ≠ y.1)) : addL (sortM L) key p = sortM (L ++ [(key, p)]) := by
  rw [addL, if_neg hp]
  have hs := sortM_sorted L
  have hperm : ((sortM L).takeWhile (fun x => ltB x.1 key) ++ (key, p) :: (sortM L).dropWhile (fun x => ltB x.1 key)).Perm (sortM (L ++ [(key, p)])) := by
    refine List.Perm.trans List.perm_middle ?_
    rw [List.takeWhile_append_dropWhile]
    refine List.Perm.trans ?_ (List.mergeSort_perm _ _).symm
    exact (List.Perm.cons _ (List.mergeSort_perm _ _)).trans (List.perm_append_singleton _ _).symm
  have hinj : ∀ x ∈ L ++ [(key, p)], ∀ y ∈ L ++ [(key, p)], x.1 = y.1 → x = y := by
    have hpw : (L ++ [(key, p)]).Pairwise (fun x y => x.1 ≠ y.1) := by
      rw [List.pairwise_append]
      exact ⟨hn, by simp, fun a ha b hb => by simp at hb; subst hb; exact hk a ha⟩
    exact pw_inj hpw
  refine List.Perm.eq_of_pairwise (le := fun p q => leB (keyL p) (keyL q) = true) ?_ ?_ (sortM_sorted _) hperm
  · intro a b ha hb h1 h2
    have ha' : a ∈ L ++ [(key, p)] := sortM_mem.1 (hperm.mem_iff.1 ha)
    have hb' : b ∈ L ++ [(key, p)] := sortM_mem.1 hb
    refine hinj a ha' b hb' ?_
    simp only [leB, decide_eq_true_eq] at h1 h2
    exact ba_ext (List.le_antisymm h1 h2)
  · rw [List.pairwise_append]
    refine ⟨hs.sublist (List.takeWhile_sublist _), ?_, fun a ha b hb => ?_⟩
    · rw [List.pairwise_cons]
      exact ⟨fun x hx => drop_while_ge hs x hx, hs.sublist (List.dropWhile_sublist _)⟩
    · have h1 := take_while_lt a ha
      rcases List.mem_cons.1 hb with rfl | hb
      · exact h1
      · exact leB_trans _ _ _ h1 (drop_while_ge hs b hb)
end Go.Proofs.YtpehhgkghgbhiaaGreatDoor
namespace Go.Proofs.YtpehhgkghgbhiaaGreatDoor
open Go.RowKit Go.Shelf
open Go.Lib (decDigits nDigits)
set_option linter.unusedVariables false
theorem shB_ne {a b : Nat} (hb : b ≠ 0) (h1 : nDigits a ≤ 4000) (h2 : nDigits b ≤ 4000) (ha : a ≠ 0) : shB a b ≠ ⟨#[48]⟩ := fun e => by
  rw [← shB_zero b, shB_tx hb h1 h2, shB_tx hb (by rw [nDigits_zero]; omega) h2] at e
  have e' := congrArg vQ e
  rw [vQ_txQ, vQ_txQ] at e'
  have h3 := (Rat.mkRat_eq_iff hb hb).1 e'
  have h4 : ((a * b : Nat) : Int) = 0 := by rw [Int.natCast_mul, h3]; simp
  have hp : 0 < a * b := Nat.mul_pos (by omega) (by omega)
  omega
theorem nodup_pw {L : List (ByteArray × ByteArray)} (h : (L.map keyL).Nodup) : L.Pairwise (fun x y => x.1 ≠ y.1) := by
  rw [List.Nodup, List.pairwise_map] at h
  exact h.imp fun hne e => hne (by unfold keyL; rw [e])
theorem exL_add {ws : List Nat} {S i : Nat} (hS : S ≠ 0) (h1 : nDigits (ws.getD i 0) ≤ 4000) (h2 : nDigits S ≤ 4000) : addL (sortM (exL ws S i)) (numB i) (shB (ws.getD i 0) S) = sortM (exL ws S (i + 1)) := by
  by_cases h0 : ws.getD i 0 = 0
  · rw [h0, shB_zero, addL, if_pos rfl, exL, if_neg (by simpa using h0)]
  · rw [exL, if_pos h0]
    refine addL_sort (shB_ne hS h1 h2 h0) ?_ ?_
    · intro x hx e
      obtain ⟨j, h1, -, rfl⟩ := exL_mem.1 hx
      have := dec_inj (by have := congrArg (fun b : ByteArray => b.data.toList) e; simpa [numB_list] using this)
      omega
    · exact nodup_pw (reads_exD (H := Unit) ws S i).nd
theorem cnt_fit {ws : List Nat} {t i : Nat} (hS : 0 < ws.sum) : cnt ws t i ≤ t := Nat.le_trans (Nat.sub_le _ _) (cntE_fit t i hS)
theorem two_dig {x : Nat} (h : x ≤ 2 ^ 256) : nDigits x ≤ 4000 := Nat.le_trans (nDigits_le (k := 78) (by omega) (Nat.lt_of_le_of_lt h (by decide))) (by omega)
theorem lawL_add {ws : List Nat} {t i : Nat} (ht : t ≠ 0) (hT : t ≤ 2 ^ 256) (hS : 0 < ws.sum) : addL (sortM (lawL ws t i)) (numB i) (shB (cnt ws t i) t) = sortM (lawL ws t (i + 1)) := by
  by_cases h0 : cntF ws t i < cntE ws t i
  · rw [lawL, if_pos h0]
    refine addL_sort (shB_ne ht (two_dig (Nat.le_trans (cnt_fit hS) hT)) (two_dig hT) (by unfold cnt; omega)) ?_ ?_
    · intro x hx e
      obtain ⟨j, h1, -, rfl⟩ := lawL_mem.1 hx
      have := dec_inj (by have := congrArg (fun b : ByteArray => b.data.toList) e; simpa [numB_list] using this)
      omega
    · exact nodup_pw (reads_lawD (H := Unit) ws t i).nd
  · have e : cnt ws t i = 0 := by unfold cnt; omega
    rw [e, shB_zero, addL, if_pos rfl, lawL, if_neg h0]
theorem lawP_add {ws : List Nat} {t N : Nat} (ht : t ≠ 0) (hT : t ≤ 2 ^ 256) : addL (sortM (lawL ws t N)) lateB (shB (t - lwS ws t N) t) = sortM (lawP ws t N) := by
  by_cases h0 : t - lwS ws t N = 0
  · rw [h0, shB_zero, addL, if_pos rfl, lawP, if_pos h0]
  · rw [lawP, if_neg h0]
    refine addL_sort (shB_ne ht (two_dig (Nat.le_trans (Nat.sub_le _ _) hT)) (two_dig hT) h0) ?_ ?_
    · intro x hx e
      obtain ⟨j, h1, -, rfl⟩ := lawL_mem.1 hx
      exact numB_late j (by rw [← e])
    · exact nodup_pw (reads_lawD (H := Unit) ws t N).nd
end Go.Proofs.YtpehhgkghgbhiaaGreatDoor
namespace Go.Proofs.YtpehhgkghgbhiaaGreatDoor
open Go.RowKit Go.Shelf
open Go.Lib (decDigits nDigits)
set_option linter.unusedVariables false
set_option linter.unusedSimpArgs false
theorem sortM_nil : sortM [] = [] := by rw [sortM, List.mergeSort_nil]
set_option maxRecDepth 100000 in
set_option maxHeartbeats 4000000 in
theorem r5_Law (w : World) (v : Value) (l : List ByteArray) (n : Int) (hv : Row w v (strs l)) (hl : ∀ x ∈ l, x.size ≤ 1000000) :
    Calls Tryz.prog 74 #[v, .int .i64 n] w fun e w' => (∃ u, e = .returned (.tuple #[u, .int .i64 (lawE l n)]) ∧ MRow w' u (lawR l n)) ∧ Below w.heap.size w w' := by
  have PC := hid ((r5_Check w v l hv hl).mono fun e w' (h : e = .returned (.int .i64 (wsE l)) ∧ w = w') => (⟨h.1, h.2 ▸ Below.refl _ _⟩ : e = .returned (.int .i64 (wsE l)) ∧ Below w.heap.size w w'))
  have HV := hid hv
  obtain ⟨a, c, rfl, q1, q2, -⟩ := hv.openS
  by_cases he : wsE l = 0
  · by_cases hr : n < 0 ∨ 256 < n
    · have e1 : lawE l n = 2 := by rw [lawE, if_neg (by simpa using he), if_pos hr]
      have e2 : lawR l n = [] := by unfold lawR; rw [if_neg (by rw [e1]; decide)]
      rw [e1, e2]
      rw [he] at PC
      obtain ⟨N, hN⟩ : ∃ N, l.length = N := ⟨_, rfl⟩
      rw [hN] at PC q1 ⊢
      clear hv hl hN HV e1 e2 he
      by_cases h4 : n < 0
      · have q0 : decide (n < 0) = true := by simpa using h4
        clear hr h4
        go_enter Tryz.func74, Tryz.ntmps74
        go_wp2_with fail
        refine PC.out.mono ?_; rintro e w1 ⟨rfl, hb1⟩
        go_wp2_with fail
        go_ret2
        exact ⟨⟨_, rfl, MRow.nil _⟩, hb1⟩
      · have q0 : decide (n < 0) = false := by simpa using h4
        have q1' : decide (256 < n) = true := by simp; omega
        clear hr h4
        go_enter Tryz.func74, Tryz.ntmps74
        go_wp2_with fail
        refine PC.out.mono ?_; rintro e w1 ⟨rfl, hb1⟩
        go_wp2_with fail
        go_ret2
        exact ⟨⟨_, rfl, MRow.nil _⟩, hb1⟩
    · obtain ⟨m, rfl⟩ : ∃ m : Nat, n = m := ⟨n.toNat, by omega⟩
      have hm : m ≤ 256 := by omega
      have e1 : lawE l (m : Int) = 0 := by rw [lawE, if_neg (by simpa using he), if_neg hr]
      have e2 : lawR l (m : Int) = sortM (lawP (l.map bN) (2 ^ m) l.length) := by unfold lawR; rw [if_pos e1]; simp
      obtain ⟨D1, D2, D3⟩ := wsE_ok he
      have hS := wsE_pos he
      have hlen : (l.map bN).length = l.length := by simp
      have RC := hid fun V (hV : Row V (.slice a l.length c) (strs l)) => r5_counts V (.slice a l.length c) (l.map bN) m D2 hS (by rw [← D1]; exact hV) hm
      have RL := hid fun V u (hu : NRow V u (l.map bN).length (cnt (l.map bN) (2 ^ m))) => r5_late V u (l.map bN) m hS hm D2.len hu
      have RS := hid fun V u x (hx : x ≤ 2 ^ 256) (hu : IsN .i64 V u x) => r3_Share V u x m hu hm hx
      have tle : 2 ^ m ≤ 2 ^ 256 := Nat.pow_le_pow_right (by omega) hm
      have HC := hid fun i => Nat.le_trans (cnt_fit (ws := l.map bN) (t := 2 ^ m) (i := i) hS) tle
      have HLT := hid (late_ok he m hm)
      have HA := hid fun i => lawL_add (ws := l.map bN) (t := 2 ^ m) (i := i) (two_ne m) tle hS
      have HP := hid (lawP_add (ws := l.map bN) (t := 2 ^ m) (N := l.length) (two_ne m) tle)
      rw [hlen] at RL RC
      rw [e1, e2]
      rw [he] at PC
      have q0 : decide ((m : Int) < 0) = false := by simp
      have q1' : decide ((256 : Int) < (m : Int)) = false := by simp; omega
      have D4 := D2.len
      rw [hlen] at D4
      obtain ⟨N, hN⟩ : ∃ N, l.length = N := ⟨_, rfl⟩
      rw [hN] at PC q1 RL RC HV HLT HP D4 ⊢
      obtain ⟨ws, hws⟩ : ∃ ws, l.map bN = ws := ⟨_, rfl⟩
      rw [hws] at RL RC HC HLT HA HP ⊢
      obtain ⟨t, ht⟩ : ∃ t, 2 ^ m = t := ⟨_, rfl⟩
      rw [ht] at RL RC HC HLT HA HP RS ⊢
      obtain ⟨Y, hY⟩ : ∃ Y, t - lwS ws t N = Y := ⟨_, rfl⟩
      rw [hY] at RL HLT HP
      obtain ⟨f, hf⟩ : ∃ f, cnt ws t = f := ⟨_, rfl⟩
      rw [hf] at RL RC
      have HF := hid hf
      have HAL : Hid (∀ i, (sortM (lawL ws t i)).length ≤ i) := fun i => by rw [sortM_length]; exact lawL_length ws t i
      clear hv hl hN e1 e2 he hr D1 D2 D3 hS hlen hY hf ht hws tle
      go_enter Tryz.func74, Tryz.ntmps74
      go_wp2_with fail
      refine PC.out.mono ?_; rintro e w1 ⟨rfl, hb1⟩
      have B1 := hid hb1; clear hb1
      go_wp2_with fail
      refine (RC.out _ (HV.out.call B1.out)).mono ?_; rintro e w2 ⟨⟨u2, rfl, hu2⟩, hb2⟩
      have U2 := hid hu2; have B2 := hid (bnext B1.out hb2)
      obtain ⟨a2, c2, rfl, r1, r2, r3⟩ := hu2.open
      have R3 := hid r3
      clear hu2 hb2 r3
      go_wp2_with fail
      go_loopw [8, 9] (fun dd ii wr => ∃ i : Nat, ii = .int .i64 i ∧ i ≤ N ∧ Hid (MRow wr dd (sortM (lawL ws t i))) ∧ Hid (Below w2.heap.size w2 wr)) (fun dd ii wr => N - (intOf ii).toNat)
      case atStart => exact ⟨0, rfl, Nat.zero_le _, by show MRow _ _ _; rw [lawL, sortM_nil]; exact MRow.nil _, Below.refl _ _⟩
      case round =>
        obtain ⟨i, rfl, hi, hM, hB⟩ := hrel
        obtain ⟨aM, cM, rfl⟩ := hM.out.openM
        by_cases hlt : i < N
        · obtain ⟨g, o, y, rfl, hg, hc, hy⟩ := R3.out i hlt
          obtain ⟨ay, cy, rfl, -, -, -⟩ := hy.openI
          have HY := hid hy
          have KK : Hid (∀ w', Below w2.heap.size w2 w' → w'.cell? ⟨g, o + i, none⟩ = some (.slice ay (limbs (f i)).length cy)) := fun w' hb => (hb.cell (p := ⟨g, o + i, none⟩) hg).trans hc
          have c1 : (0 : Int) ≤ (i : Int) := by omega
          have c2 : (i : Int) < (N : Int) := by omega
          have wi : IntKind.i64.wrap ((i : Int) + 1) = ((i + 1 : Nat) : Int) := by rw [IntWalk.i64_in _ ⟨by omega, by omega⟩]; omega
          have RI := fun V => hid (r2_Int V i (by omega))
          have HCI := hid (show f i ≤ 2 ^ 256 from by rw [← HF.out]; exact HC.out i)
          have HAI := hid (show addL (sortM (lawL ws t i)) (numB i) (shB (f i) t) = sortM (lawL ws t (i + 1)) from by rw [← HF.out]; exact HA.out i)
          have RA := fun V u key p hu => hid (r4_Add V u (sortM (lawL ws t i)) key p hu (by have := HAL.out i; omega))
          obtain ⟨L, hL⟩ : ∃ L, (sortM (lawL ws t i)).length = L := ⟨_, rfl⟩
          rw [hL] at hM ⊢
          obtain ⟨I0, hI0⟩ : ∃ s, numB i = s := ⟨_, rfl⟩
          obtain ⟨J0, hJ0⟩ : ∃ s, shB (f i) t = s := ⟨_, rfl⟩
          rw [hI0] at RI
          rw [hI0, hJ0] at HAI
          have HJ0 := hid hJ0
          obtain ⟨ly, hly⟩ : ∃ x, (limbs (f i)).length = x := ⟨_, rfl⟩
          rw [hly] at HY KK
          clear hc hy hL hI0 hJ0 hly
          go_wp2_with fail
          go_region_held3 (fun w' => w'.cell? ⟨g, o + i, none⟩ = some (.slice ay ly cy))
            (first
              | exact KK.out _ hB.out.drew
              | exact KK.out _ (hB.out.trans (B4.out.mono hB.out.size))
              | exact KK.out _ (hB.out.trans (B3.out.mono hB.out.size)))
            (first
              | (go_at_call 12; refine (RI _).out.mono ?_; rintro e w3 ⟨rfl, rfl⟩)
              | (go_at_call 118; refine (RS.out _ _ _ HCI.out (HY.out.call (hB.out.drew))).mono ?_; rintro e w3 ⟨rfl, hb3⟩; have B3 := hid (show Below wr.heap.size wr w3 from (Below.refl _ _).drew.trans hb3); clear hb3)
              | (go_at_call 116; refine (RA _ _ _ _ (hM.out.call B3.out)).out.mono ?_; rintro e w4 ⟨⟨u4, rfl, hu4⟩, hb4⟩; have U4 := hid hu4; have B4 := hid (bnext B3.out hb4); clear hu4 hb4))
          rw [HJ0.out, HAI.out] at U4
          go_wp2_with fail
          go_roundw
          case rel => exact ⟨i + 1, by go_num, by omega, U4, bnext hB.out B4.out⟩
          case measure => simp [intOf] <;> omega
        · obtain rfl : i = N := by omega
          have RA := fun V u key p hu => hid (r4_Add V u (sortM (lawL ws t i)) key p hu (by have := HAL.out i; omega))
          obtain ⟨L, hL⟩ : ∃ L, (sortM (lawL ws t i)).length = L := ⟨_, rfl⟩
          rw [hL] at hM ⊢
          obtain ⟨J0, hJ0⟩ : ∃ s, shB Y t = s := ⟨_, rfl⟩
          rw [hJ0] at HP
          have HJ0 := hid hJ0
          clear hL hJ0
          go_wp2_with fail
          refine (RL.out _ _ (U2.out.call hB.out)).mono ?_; rintro e w3 ⟨⟨u3, rfl, hu3⟩, hb3⟩
          have U3 := hid hu3; have B3 := hid (bnext hB.out hb3); have BR3 := hid hb3; clear hu3 hb3
          go_wp2_with fail
          refine (RS.out _ _ _ HLT.out U3.out).mono ?_; rintro e w4 ⟨rfl, hb4⟩
          have B4 := hid (bnext B3.out hb4); have BR4 := hid (bnext BR3.out hb4); clear hb4
          go_wp2_with fail
          refine (RA _ _ _ _ (hM.out.call BR4.out)).out.mono ?_; rintro e w5 ⟨⟨u5, rfl, hu5⟩, hb5⟩
          have U5 := hid hu5; have B5 := hid (bnext B4.out hb5); clear hu5 hb5
          rw [HJ0.out] at U5
          have hpp := HP.out
          unfold lateB at hpp
          rw [hpp] at U5
          clear hpp
          go_wp2_with fail
          go_ret2
          exact ⟨⟨_, rfl, U5.out⟩, bnext B2.out B5.out⟩
  · have e1 : lawE l n = wsE l := by rw [lawE, if_pos he]
    have e2 : lawR l n = [] := by unfold lawR; rw [if_neg (by rw [e1]; exact he)]
    rw [e1, e2]
    obtain ⟨N, hN⟩ : ∃ N, l.length = N := ⟨_, rfl⟩
    obtain ⟨z, hz⟩ : ∃ z, wsE l = z := ⟨_, rfl⟩
    rw [hN, hz] at PC
    rw [hN, hz]
    rw [hN] at q1
    rw [hz] at he
    have q0 : (z != 0) = true := by simpa using he
    clear hv hl hN HV e1 e2 he hz
    go_enter Tryz.func74, Tryz.ntmps74
    go_wp2_with fail
    refine PC.out.mono ?_; rintro e w1 ⟨rfl, hb1⟩
    go_wp2_with fail
    go_ret2
    exact ⟨⟨_, rfl, MRow.nil _⟩, hb1⟩
end Go.Proofs.YtpehhgkghgbhiaaGreatDoor
namespace Go.Proofs.YtpehhgkghgbhiaaGreatDoor
open Go.RowKit Go.Shelf
open Go.Lib (decDigits nDigits)
set_option linter.unusedVariables false
set_option linter.unusedSimpArgs false
set_option maxRecDepth 100000 in
set_option maxHeartbeats 4000000 in
theorem r5_Exact (w : World) (v : Value) (l : List ByteArray) (hv : Row w v (strs l)) (hl : ∀ x ∈ l, x.size ≤ 1000000) :
    Calls Tryz.prog 73 #[v] w fun e w' => (∃ u, e = .returned (.tuple #[u, .int .i64 (wsE l)]) ∧ MRow w' u (exR l)) ∧ Below w.heap.size w w' := by
  have PC := hid ((r5_Check w v l hv hl).mono fun e w' (h : e = .returned (.int .i64 (wsE l)) ∧ w = w') => (⟨h.1, h.2 ▸ Below.refl _ _⟩ : e = .returned (.int .i64 (wsE l)) ∧ Below w.heap.size w w'))
  have HV := hid hv
  obtain ⟨a, c, rfl, q1, q2, -⟩ := hv.openS
  by_cases he : wsE l = 0
  · have e2 : exR l = sortM (exL (l.map bN) (l.map bN).sum l.length) := by unfold exR; rw [if_pos he]
    obtain ⟨D1, D2, D3⟩ := wsE_ok he
    have hS := wsE_pos he
    have hlen : (l.map bN).length = l.length := by simp
    have RS := hid fun V (hV : Row V (.slice a l.length c) (strs l)) => r5_Sums V (.slice a l.length c) (l.map bN) D2 (by rw [← D1]; exact hV)
    rw [hlen] at RS
    rw [e2, he]
    rw [he] at PC
    have D4 := D2.len
    rw [hlen] at D4
    have HD1 := hid D1; have HWS := hid D2; have HS := hid hS; have HLEN := hid hlen
    obtain ⟨N, hN⟩ : ∃ N, l.length = N := ⟨_, rfl⟩
    rw [hN] at PC q1 RS HV D4 HLEN ⊢
    obtain ⟨ws, hws⟩ : ∃ ws, l.map bN = ws := ⟨_, rfl⟩
    rw [hws] at RS HD1 HWS HS HLEN ⊢
    have HALL := hid (show pre ws N = ws.sum from pre_all (by rw [HLEN.out]; omega))
    obtain ⟨S, hSS⟩ : ∃ S, ws.sum = S := ⟨_, rfl⟩
    have HSS := hid hSS
    rw [hSS] at HS HALL ⊢
    have HSD := hid (show nDigits S ≤ 3802 from by rw [← hSS]; exact HWS.out.sum)
    have HAL : Hid (∀ i, (sortM (exL ws S i)).length ≤ i) := fun i => by rw [sortM_length]; exact exL_length ws S i
    have HAD := hid fun i (h : nDigits (ws.getD i 0) ≤ 3800) => exL_add (ws := ws) (S := S) (i := i) (by have := HS.out; omega) (by omega) (by have := HSD.out; omega)
    have LS : Hid ((limbs S).length ≤ 1000000) := num_limbs (by have := HSD.out; omega)
    clear hv hl hN e2 he D1 D2 D3 hS hlen hws hSS
    go_enter Tryz.func73, Tryz.ntmps73
    go_wp2_with fail
    refine PC.out.mono ?_; rintro e w1 ⟨rfl, hb1⟩
    have B1 := hid hb1; clear hb1
    go_wp2_with fail
    refine (RS.out _ (HV.out.call B1.out)).mono ?_; rintro e w2 ⟨⟨u2, rfl, hu2⟩, hb2⟩
    have B2 := hid (bnext B1.out hb2)
    obtain ⟨a2, c2, rfl, r1, r2, r3⟩ := hu2.open
    obtain ⟨g, o, y, rfl, hg, hc, hy⟩ := r3 N (by omega)
    rw [HALL.out] at hy
    have HY := hid hy
    have b1 : (0 : Int) ≤ (N : Int) := by omega
    have b2 : (N : Int) < (N : Int) + 1 := by omega
    have b3 : (N : Int) < ((N + 1 : Nat) : Int) := by omega
    clear hu2 hb2 r3 hy
    go_wp2_with fail
    refine (r1_Write _ _ _ HY.out LS.out).mono ?_; rintro e w3 ⟨rfl, hb3⟩
    have B3 := hid (bnext B2.out hb3)
    rw [numV_eq]
    obtain ⟨S0, hS0⟩ : ∃ s, numB S = s := ⟨_, rfl⟩
    have HS0 := hid hS0
    rw [hS0]
    clear hb3 hc HY hg b1 b2 b3 hS0 r1 r2
    go_wp2_with fail
    go_loopw [7, 8] (fun dd ii wr => ∃ i : Nat, ii = .int .i64 i ∧ i ≤ N ∧ Hid (MRow wr dd (sortM (exL ws S i))) ∧ Hid (Below w3.heap.size w3 wr)) (fun dd ii wr => N - (intOf ii).toNat)
    case atStart => exact ⟨0, rfl, Nat.zero_le _, by show MRow _ _ _; rw [exL, sortM_nil]; exact MRow.nil _, Below.refl _ _⟩
    case round =>
      obtain ⟨i, rfl, hi, hM, hB⟩ := hrel
      obtain ⟨aM, cM, rfl⟩ := hM.out.openM
      by_cases hlt : i < N
      · obtain ⟨x, hx⟩ : ∃ x, ws[i]? = some x := ⟨_, List.getElem?_eq_getElem (by rw [HLEN.out]; exact hlt)⟩
        obtain ⟨g', o', rfl, hg', hc'⟩ := HV.out.at (strs_get (show l[i]? = some (numB x) by rw [HD1.out, List.getElem?_map, hx]; rfl))
        have BW := hid (bnext B3.out hB.out)
        have hc2 := (BW.out.cell (p := ⟨g', o' + i, none⟩) hg').trans hc'
        have hgd : ws.getD i 0 = x := by rw [List.getD_eq_getElem?_getD, hx]; rfl
        have hxd := HWS.out.dig x (List.mem_of_getElem? hx)
        have HAI := hid (show addL (sortM (exL ws S i)) (numB i) (shB x S) = sortM (exL ws S (i + 1)) from by have := HAD.out i (by rw [hgd]; exact hxd); rw [hgd] at this; exact this)
        have RM := fun V => hid (r2_Make_num V x S (by omega) (by have := HSD.out; omega) (by have := HS.out; omega))
        have RI := fun V => hid (r2_Int V i (by omega))
        have RA := fun V u key p hu => hid (r4_Add V u (sortM (exL ws S i)) key p hu (by have := HAL.out i; omega))
        have c1 : (0 : Int) ≤ (i : Int) := by omega
        have c2' : (i : Int) < (N : Int) := by omega
        have wi : IntKind.i64.wrap ((i : Int) + 1) = ((i + 1 : Nat) : Int) := by rw [IntWalk.i64_in _ ⟨by omega, by omega⟩]; omega
        obtain ⟨L, hL⟩ : ∃ L, (sortM (exL ws S i)).length = L := ⟨_, rfl⟩
        rw [hL] at hM ⊢
        obtain ⟨X0, hX0⟩ : ∃ s, numB x = s := ⟨_, rfl⟩
        obtain ⟨I0, hI0⟩ : ∃ s, numB i = s := ⟨_, rfl⟩
        obtain ⟨J0, hJ0⟩ : ∃ s, shB x S = s := ⟨_, rfl⟩
        have e3 : outB (qmk false x S) = J0 := hJ0
        obtain ⟨oe, hoe⟩ : ∃ s, outE (qmk false x S) = s := ⟨_, rfl⟩
        rw [hX0, HS0.out, e3, hoe] at RM
        rw [hX0] at hc2
        rw [hI0] at RI
        rw [hI0, hJ0] at HAI
        clear hx hg' hc' hgd hxd hL hX0 hI0 hJ0 e3 hoe
        go_wp2_with fail
        refine (RM _).out.mono ?_; rintro e w4 ⟨rfl, hb4⟩
        have B4 := hid (bnext hB.out hb4); have BR4 := hid hb4; clear hb4
        go_wp2_with fail
        refine (RI _).out.mono ?_; rintro e w5 ⟨rfl, rfl⟩
        go_wp2_with fail
        refine (RA _ _ _ _ (hM.out.call BR4.out)).out.mono ?_; rintro e w5 ⟨⟨u5, rfl, hu5⟩, hb5⟩
        rw [HAI.out] at hu5
        have U5 := hid hu5; have B5 := hid (bnext B4.out hb5); clear hu5 hb5 hc2
        go_wp2_with fail
        go_roundw
        case rel => exact ⟨i + 1, by go_num, by omega, U5, B5⟩
        case measure => simp [intOf] <;> omega
      · obtain rfl : i = N := by omega
        obtain ⟨L, hL⟩ : ∃ L, (sortM (exL ws S i)).length = L := ⟨_, rfl⟩
        rw [hL] at hM ⊢
        clear hL
        go_wp2_with fail
        go_ret2
        exact ⟨⟨_, rfl, hM.out⟩, bnext B3.out hB.out⟩
  · have e2 : exR l = [] := by unfold exR; rw [if_neg he]
    rw [e2]
    obtain ⟨N, hN⟩ : ∃ N, l.length = N := ⟨_, rfl⟩
    obtain ⟨z, hz⟩ : ∃ z, wsE l = z := ⟨_, rfl⟩
    rw [hN, hz] at PC
    rw [hN, hz]
    rw [hN] at q1
    rw [hz] at he
    have q0 : (z != 0) = true := by simpa using he
    clear hv hl hN HV e2 he hz
    go_enter Tryz.func73, Tryz.ntmps73
    go_wp2_with fail
    refine PC.out.mono ?_; rintro e w1 ⟨rfl, hb1⟩
    go_wp2_with fail
    go_ret2
    exact ⟨⟨_, rfl, MRow.nil _⟩, hb1⟩
end Go.Proofs.YtpehhgkghgbhiaaGreatDoor
namespace Go.Proofs.YtpehhgkghgbhiaaGreatDoor
open Go.RowKit Go.Shelf
open Go.Lib (decDigits nDigits)
set_option linter.unusedVariables false
set_option linter.unusedSimpArgs false
set_option maxRecDepth 100000 in
set_option maxHeartbeats 1000000 in
theorem r22_Exact (w : World) (v : Value) (us : List Int) (s : ByteArray) (B : Int) (hv : Row w v (zs us)) (hs : s.size ≤ 100000) :
    Calls Tryz.prog 32 #[v, .string s, .int .i64 B] w fun e w' => (∃ u, e = .returned (.tuple #[u, .int .i64 (cwE us s B)]) ∧ MRow w' u (exR (cwR us s B))) ∧ Below w.heap.size w w' := by
  have PW := hid (r22_Weights w v us s B hv hs)
  obtain ⟨a, c, rfl, -⟩ := hv.openZ
  by_cases he : cwE us s B = 0
  · obtain ⟨ok, -⟩ := cw_good he
    have hsz := fun x hx => Nat.le_trans (cwT_size ok x hx) (by omega : 400 ≤ 1000000)
    have PE := fun V u hu => hid (r5_Exact V u (cwT us s B) hu hsz)
    rw [wsE_cw ok] at PE
    have e1 : cwR us s B = cwT us s B := if_pos he
    rw [e1, he] at PW ⊢
    obtain ⟨T, hT⟩ : ∃ T, cwT us s B = T := ⟨_, rfl⟩
    rw [hT] at PW PE ⊢
    clear hv hs he ok hsz e1 hT
    go_enter Tryz.func32, Tryz.ntmps32
    go_wp2_with fail
    refine PW.out.mono ?_; rintro e w1 ⟨⟨u, rfl, hu⟩, hb1⟩
    obtain ⟨a1, c1, rfl, -⟩ := hu.openS
    have U1 := hid hu; have y1 := hid hb1
    clear hu hb1
    go_wp2_with fail
    refine (PE _ _ U1.out).out.mono ?_; rintro e w2 ⟨⟨u2, rfl, hu2⟩, hb2⟩
    obtain ⟨a2, c2, rfl⟩ := hu2.openM
    have U2 := hid hu2; have y2 := hid (bnext y1.out hb2)
    clear hu2 hb2
    go_wp2_with fail
    go_ret2
    exact ⟨⟨_, rfl, U2.out⟩, y2.out⟩
  · have e1 : cwR us s B = [] := if_neg he
    rw [e1] at PW ⊢
    rw [exR_nil]
    obtain ⟨z, hz⟩ : ∃ z, cwE us s B = z := ⟨_, rfl⟩
    rw [hz] at PW he ⊢
    have q0 : (z != 0) = true := by simpa using he
    clear hv hs he e1 hz
    go_enter Tryz.func32, Tryz.ntmps32
    go_wp2_with fail
    refine PW.out.mono ?_; rintro e w1 ⟨⟨u, rfl, hu⟩, hb1⟩
    obtain ⟨a1, c1, rfl, -⟩ := hu.openS
    have y1 := hid hb1
    clear hu hb1
    go_wp2_with fail
    go_ret2
    exact ⟨⟨_, rfl, MRow.nil _⟩, y1.out⟩
set_option maxRecDepth 100000 in
set_option maxHeartbeats 1000000 in
theorem r22_Law (w : World) (v : Value) (us : List Int) (s : ByteArray) (B n : Int) (hv : Row w v (zs us)) (hs : s.size ≤ 100000) :
    Calls Tryz.prog 33 #[v, .string s, .int .i64 B, .int .i64 n] w fun e w' => (∃ u, e = .returned (.tuple #[u, .int .i64 (clE us s B n)]) ∧ MRow w' u (lawR (cwR us s B) n)) ∧ Below w.heap.size w w' := by
  have PW := hid (r22_Weights w v us s B hv hs)
  obtain ⟨a, c, rfl, -⟩ := hv.openZ
  by_cases he : cwE us s B = 0
  · obtain ⟨ok, -⟩ := cw_good he
    have hsz := fun x hx => Nat.le_trans (cwT_size ok x hx) (by omega : 400 ≤ 1000000)
    have PE := fun V u hu => hid (r5_Law V u (cwT us s B) n hu hsz)
    have e1 : cwR us s B = cwT us s B := if_pos he
    have e2 : clE us s B n = lawE (cwT us s B) n := if_neg (by simpa using he)
    rw [e1, he] at PW
    rw [e1, e2]
    obtain ⟨T, hT⟩ : ∃ T, cwT us s B = T := ⟨_, rfl⟩
    rw [hT] at PW PE ⊢
    clear hv hs he ok hsz e1 e2 hT
    go_enter Tryz.func33, Tryz.ntmps33
    go_wp2_with fail
    refine PW.out.mono ?_; rintro e w1 ⟨⟨u, rfl, hu⟩, hb1⟩
    obtain ⟨a1, c1, rfl, -⟩ := hu.openS
    have U1 := hid hu; have y1 := hid hb1
    clear hu hb1
    go_wp2_with fail
    refine (PE _ _ U1.out).out.mono ?_; rintro e w2 ⟨⟨u2, rfl, hu2⟩, hb2⟩
    obtain ⟨a2, c2, rfl⟩ := hu2.openM
    have U2 := hid hu2; have y2 := hid (bnext y1.out hb2)
    clear hu2 hb2
    go_wp2_with fail
    go_ret2
    exact ⟨⟨_, rfl, U2.out⟩, y2.out⟩
  · have e1 : cwR us s B = [] := if_neg he
    have e2 : clE us s B n = cwE us s B := if_pos he
    rw [e1] at PW ⊢
    rw [lawR_nil, e2]
    obtain ⟨z, hz⟩ : ∃ z, cwE us s B = z := ⟨_, rfl⟩
    rw [hz] at PW he ⊢
    have q0 : (z != 0) = true := by simpa using he
    clear hv hs he e1 e2 hz
    go_enter Tryz.func33, Tryz.ntmps33
    go_wp2_with fail
    refine PW.out.mono ?_; rintro e w1 ⟨⟨u, rfl, hu⟩, hb1⟩
    obtain ⟨a1, c1, rfl, -⟩ := hu.openS
    have y1 := hid hb1
    clear hu hb1
    go_wp2_with fail
    go_ret2
    exact ⟨⟨_, rfl, MRow.nil _⟩, y1.out⟩
set_option maxRecDepth 100000 in
set_option maxHeartbeats 1000000 in
theorem r22_Draw (w : World) (v : Value) (us : List Int) (s : ByteArray) (B : Int) (b : ByteArray) (hv : Row w v (zs us)) (hs : s.size ≤ 100000) (hb : b.size ≤ 100000000) :
    Calls Tryz.prog 31 #[v, .string s, .int .i64 B, .string b] w fun e w' => e = .returned (.tuple #[dw3 (dr3 (cwR us s B) b), .int .i64 (cdE us s B b)]) ∧ Below w.heap.size w w' := by
  have A0 := hid ((Below.refl w.heap.size w).alloc (Nat.le_refl _) (.cells #[.bool false, .int .i64 0, .int .i64 0] 48))
  have x0 := hid (Blk.new w #[.bool false, .int .i64 0, .int .i64 0] 48)
  have PW := hid (r22_Weights _ v us s B (hv.call A0.out) hs)
  obtain ⟨a, c, rfl, -⟩ := hv.openZ
  by_cases he : cwE us s B = 0
  · obtain ⟨ok, -⟩ := cw_good he
    have hsz := fun x hx => Nat.le_trans (cwT_size ok x hx) (by omega : 400 ≤ 1000000)
    have PE := fun V u hu => hid (r5_Draw V u (cwT us s B) b hu hsz hb)
    have e1 : cwR us s B = cwT us s B := if_pos he
    have e2 : cdE us s B b = drE (cwT us s B) b := if_neg (by simpa using he)
    rw [e1, he] at PW
    rw [e1, e2]
    obtain ⟨T, hT⟩ : ∃ T, cwT us s B = T := ⟨_, rfl⟩
    rw [hT] at PW PE ⊢
    obtain ⟨y, hy⟩ : ∃ y, drE T b = y := ⟨_, rfl⟩
    obtain ⟨X, hX⟩ : ∃ X, dr3 T b = X := ⟨_, rfl⟩
    rw [hy, hX] at PE ⊢
    obtain ⟨d, vv, uu⟩ := X
    simp only [dw3] at PE ⊢
    clear hv hs he ok hsz e1 e2 hT hb hy hX
    go_enter Tryz.func31, Tryz.ntmps31
    go_wp2_with fail
    refine PW.out.mono ?_; rintro e w1 ⟨⟨u, rfl, hu⟩, hb1⟩
    obtain ⟨a1, c1, rfl, -⟩ := hu.openS
    have U1 := hid hu; have y1 := hid (bnext A0.out hb1); have k1 := hid (x0.out.call hb1)
    clear hu hb1
    go_wp2_with fail
    refine (PE _ _ U1.out).out.mono ?_; rintro e w4 ⟨rfl, hb2⟩
    have y4 := hid (bnext y1.out hb2); have k4 := hid (k1.out.call hb2)
    clear hb2
    have r0 := k4.out.cell 0
    have r1' := k4.out.cell 1
    have r2' := k4.out.cell 2
    have f0 := k4.out.free 0
    have f1 := k4.out.free 1
    have f2 := k4.out.free 2
    simp at r0 r1' r2'
    go_wp2_with fail
    have s3 := ((k4.out.set 0 (.bool d)).set 1 (.int .i64 (vv : Nat))).set 2 (.int .i64 (uu : Nat))
    have z0 := s3.cell 0
    have z1 := s3.cell 1
    have z2 := s3.cell 2
    simp at z0 z1 z2
    refine bodyPost_ret (v := .tuple #[.agg #[.bool d, .int .i64 (vv : Nat), .int .i64 (uu : Nat)], .int .i64 y]) (by simp [results, Tryz.results31, go_sem, z0, z1, z2]) rfl ⟨rfl, ?_⟩
    exact ((y4.out.setCell (Nat.le_refl _) _).setCell (Nat.le_refl _) _).setCell (Nat.le_refl _) _
  · have e1 : cwR us s B = [] := if_neg he
    have e2 : cdE us s B b = cwE us s B := if_pos he
    rw [e1] at PW ⊢
    rw [dr3_nil, e2]
    simp only [dw3]
    obtain ⟨z, hz⟩ : ∃ z, cwE us s B = z := ⟨_, rfl⟩
    rw [hz] at PW he ⊢
    have q0 : (z != 0) = true := by simpa using he
    clear hv hs he e1 e2 hz hb
    go_enter Tryz.func31, Tryz.ntmps31
    go_wp2_with fail
    refine PW.out.mono ?_; rintro e w1 ⟨⟨u, rfl, hu⟩, hb1⟩
    obtain ⟨a1, c1, rfl, -⟩ := hu.openS
    have y1 := hid (bnext A0.out hb1); have k1 := hid (x0.out.call hb1)
    clear hu hb1
    have r0 := k1.out.cell 0
    have r1' := k1.out.cell 1
    have r2' := k1.out.cell 2
    have f0 := k1.out.free 0
    have f1 := k1.out.free 1
    have f2 := k1.out.free 2
    simp at r0 r1' r2'
    go_wp2_with fail
    have s3 := ((k1.out.set 0 (.bool false)).set 1 (.int .i64 0)).set 2 (.int .i64 0)
    have z0 := s3.cell 0
    have z1 := s3.cell 1
    have z2 := s3.cell 2
    simp at z0 z1 z2
    refine bodyPost_ret (v := .tuple #[.agg #[.bool false, .int .i64 0, .int .i64 0], .int .i64 z]) (by simp [results, Tryz.results31, go_sem, z0, z1, z2]) rfl ⟨rfl, ?_⟩
    exact ((y1.out.setCell (Nat.le_refl _) _).setCell (Nat.le_refl _) _).setCell (Nat.le_refl _) _
end Go.Proofs.YtpehhgkghgbhiaaGreatDoor
namespace Go.Proofs.YtpehhgkghgbhiaaGreatDoor
open Go.RowKit
open Go.Lib (decDigits nDigits)
set_option linter.unusedVariables false
set_option linter.unusedSimpArgs false
set_option maxRecDepth 100000 in
set_option maxHeartbeats 2000000 in
theorem r2_Order (w : World) (v u : Value) (p q : Rat) (hp : IsQ .i64 w v p) (hq : IsQ .i64 w u q) (dp : Dig 4000 p) (dq : Dig 4000 q) :
    Calls Tryz.prog 50 #[v, u] w fun e w' => e = .returned (.int .i64 (ordQ p q)) ∧ Below w.heap.size w w' := by
  have HO := fun V v u hp hq => hid (op_plus V v u p (-q) hp hq dp (dig_neg dq))
  have HG := fun V v h => hid (r2_Negative V v q h)
  have HP := hid hp; have HQ := hid hq
  obtain ⟨m, a, n, c, a', n', c', rfl⟩ := hp.qv
  obtain ⟨m2, b, j, d, b', j', d', rfl⟩ := hq.qv
  rw [show ordQ p q = sgnQ (p + -q) by rw [ordQ, Rat.sub_eq_add_neg]]
  obtain ⟨z, hz⟩ : ∃ z, p + -q = z := ⟨_, rfl⟩
  simp only [hz] at HO
  rw [hz]
  clear hp hq dp dq hz
  go_enter Tryz.func50, Tryz.ntmps50
  go_upto_region 1 with fail
  obtain ⟨W, hW⟩ : ∃ W, (w.alloc (.cells #[.bool m, .slice a n c, .slice a' n' c'] 66)).alloc (.cells #[.bool m2, .slice b j d, .slice b' j' d'] 66) = W := ⟨_, rfl⟩
  have Y0 : Blk W w.heap.size #[.bool m, .slice a n c, .slice a' n' c'] 66 := by rw [← hW]; exact (Blk.new w _ _).alloc _
  have Y1 : Blk W (w.heap.size + 1) #[.bool m2, .slice b j d, .slice b' j' d'] 66 := by rw [← hW]; exact Blk.made _ _ _ (by simp)
  have y0 : Below w.heap.size w W := by rw [← hW]; exact ((Below.refl _ _).alloc (Nat.le_refl _) _).alloc (by simp) _
  rw [hW]
  have KK : Hid (∀ w', Below W.heap.size W w' → w'.cell? ⟨w.heap.size, 0, none⟩ = some (.bool m) ∧ w'.cell? ⟨w.heap.size, 1, none⟩ = some (.slice a n c) ∧ w'.cell? ⟨w.heap.size, 2, none⟩ = some (.slice a' n' c') ∧ w'.cell? ⟨w.heap.size + 1, 0, none⟩ = some (.bool m2) ∧ w'.cell? ⟨w.heap.size + 1, 1, none⟩ = some (.slice b j d) ∧ w'.cell? ⟨w.heap.size + 1, 2, none⟩ = some (.slice b' j' d')) := fun w' hb =>
    ⟨(Y0.call hb).cell 0, (Y0.call hb).cell 1, (Y0.call hb).cell 2, (Y1.call hb).cell 0, (Y1.call hb).cell 1, (Y1.call hb).cell 2⟩
  have Q1 := hid (HP.out.call y0); have Q2 := hid (HQ.out.call y0)
  have HY := hid y0
  clear Y0 Y1 y0 hW
  go_cut [5] (fun s5 wx => ∃ (g : Nat) (a5 : Option Addr) (n5 c5 : Nat) (a6 : Option Addr) (n6 c6 : Nat), s5 = .pointer (some ⟨g, 0, none⟩) ∧ Hid (Blk wx g #[.bool (decide (z.num < 0)), .slice a5 n5 c5, .slice a6 n6 c6] 66) ∧ Hid (n5 = (limbs z.num.natAbs).length) ∧ Hid (Below W.heap.size W wx))
  case first =>
    refine held_plain [0, 1] 4 (fun w' => w'.cell? ⟨w.heap.size, 0, none⟩ = some (.bool m) ∧ w'.cell? ⟨w.heap.size, 1, none⟩ = some (.slice a n c) ∧ w'.cell? ⟨w.heap.size, 2, none⟩ = some (.slice a' n' c') ∧ w'.cell? ⟨w.heap.size + 1, 0, none⟩ = some (.bool m2) ∧ w'.cell? ⟨w.heap.size + 1, 1, none⟩ = some (.slice b j d) ∧ w'.cell? ⟨w.heap.size + 1, 2, none⟩ = some (.slice b' j' d')) (by kernel_rfl) (by kernel_rfl) (by kernel_rfl) (by kernel_rfl) (KK.out _ (Below.refl _ _).drew) ?_
    iterate 2
      refine ⟨_, rfl, ?_⟩
      apply Exists.intro
      refine ⟨.inl ⟨by rfl, ?_⟩, ?_⟩
      · (intro W' hW'; obtain ⟨q1, q2, q3, q4, q5, q6⟩ := hW'; go_simp; try (with_reducible rfl))
      (dsimp only [Act.put]; try simp only [List.setIfInBounds_toArray, List.set_cons_zero, List.set_cons_succ])
    refine held_two (i := 2) (j := 4) (by kernel_rfl) (by rfl) (by rfl) (by rfl) (by rfl) ?_ ?_
    · go_wp2_with fail
      refine (HG _ _ (Q2.out.call (Below.refl _ _).drew)).out.mono ?_; rintro e w3 ⟨⟨v3, rfl, hv3⟩, hb3⟩
      have x3 := hid (show Below W.heap.size W w3 from (Below.refl _ _).drew.trans hb3)
      have N3 := hid hv3
      obtain ⟨m5, a5, n5, c5, a6, n6, c6, rfl⟩ := hv3.qv
      clear hb3 hv3
      go_wp2_with fail
      refine ⟨KK.out _ x3.out, ?_⟩
      refine held_two (i := 3) (j := 4) (by kernel_rfl) (by rfl) (by rfl) (by rfl) (by rfl) ?_ ?_
      · go_wp2_with fail
        refine (HO _ _ _ (Q1.out.call x3.out) N3.out).out.mono ?_; rintro e w4 ⟨⟨v4, rfl, hv4⟩, hb4⟩
        have x4 := hid (bnext x3.out hb4)
        obtain ⟨N, D, rfl, h1, h2⟩ := hv4.ex
        obtain ⟨a7, c7, rfl, -⟩ := h1.openI
        obtain ⟨a8, c8, rfl, -⟩ := h2.openI
        clear hb4 hv4 h1 h2
        go_wp2_with fail
        refine ⟨KK.out _ x4.out, ?_⟩
        refine held_one (i := 4) (by kernel_rfl) (by rfl) (by rfl) ?_
        go_wp2_with fail
        refine ⟨KK.out _ (x4.out.alloc x4.out.size _), ?_⟩
        refine held_one (i := 5) (by kernel_rfl) (by rfl) (by rfl) ?_
        go_wp2_with fail
        refine ⟨KK.out _ (x4.out.alloc x4.out.size _), ?_⟩
        refine wpAnyH_done (by kernel_rfl) ?_ _
        simp only [Only]
        go_wp2_with fail
        go_meet
        exact ⟨_, _, _, _, _, _, _, rfl, Blk.new w4 _ _, rfl, x4.out.alloc x4.out.size _⟩
      · go_wp2_with fail
        have A3 := hid (x3.out.alloc x3.out.size (.cells #[.bool false, .slice none 0 0, .slice none 0 0] 66))
        have b3 := hid (Blk.new w3 #[.bool false, .slice none 0 0, .slice none 0 0] 66)
        have n3 := hid (N3.out.call ((Below.refl _ _).alloc (Nat.le_refl _) (.cells #[.bool false, .slice none 0 0, .slice none 0 0] 66)))
        refine ⟨KK.out _ A3.out, ?_⟩
        refine held_one (i := 3) (by kernel_rfl) (by rfl) (by rfl) ?_
        go_wp2_with fail
        refine (HO _ _ _ (Q1.out.call A3.out) n3.out).out.mono ?_; rintro e w4 ⟨⟨v4, rfl, hv4⟩, hb4⟩
        have x4 := hid (bnext A3.out hb4)
        have b4 := hid (b3.out.call hb4)
        obtain ⟨N, D, rfl, h1, h2⟩ := hv4.ex
        obtain ⟨a7, c7, rfl, -⟩ := h1.openI
        obtain ⟨a8, c8, rfl, -⟩ := h2.openI
        have t0 := b4.out.cell 0
        have t1 := b4.out.cell 1
        have t2 := b4.out.cell 2
        have t3 := b4.out.free 0
        have t4 := b4.out.free 1
        have t5 := b4.out.free 2
        simp at t0 t1 t2
        have ge := hid (show W.heap.size ≤ w3.heap.size from x3.out.size)
        obtain ⟨k7, hk7⟩ : ∃ k, (limbs z.num.natAbs).length = k := ⟨_, rfl⟩
        obtain ⟨k8, hk8⟩ : ∃ k, (limbs z.den).length = k := ⟨_, rfl⟩
        obtain ⟨mz, hmz⟩ : ∃ m, decide (z.num < 0) = m := ⟨_, rfl⟩
        rw [hk7, hk8, hmz]
        have HK7 := hid hk7; have HMZ := hid hmz
        clear hb4 hv4 h1 h2 hk7 hk8 hmz
        go_wp2_with fail
        refine ⟨KK.out _ x4.out, ?_⟩
        refine held_one (i := 5) (by kernel_rfl) (by rfl) (by rfl) ?_
        go_wp2_with fail
        obtain ⟨s1, s2⟩ := set3 b4.out mz a7 a8 k7 c7 k8 c8
        have x5 := hid (below_set (below_set (below_set x4.out (i := 0) ge.out (.bool mz)) (i := 1) ge.out (.slice a7 k7 c7)) (i := 2) ge.out (.slice a8 k8 c8))
        have S2 := hid s2
        clear s1 s2 t0 t1 t2 t3 t4 t5
        refine ⟨KK.out _ x5.out, ?_⟩
        refine wpAnyH_done (by kernel_rfl) ?_ _
        simp only [Only]
        go_wp2_with fail
        go_meet
        exact ⟨_, _, _, _, _, _, _, rfl, by rw [HMZ.out]; exact S2, HK7.out.symm, x5⟩
    · go_wp2_with fail
      have A0 := hid (show Below W.heap.size W (W.alloc (.cells #[.bool false, .slice none 0 0, .slice none 0 0] 66)).drew from ((Below.refl _ _).alloc (Nat.le_refl _) _).drew)
      have b0 := hid (show Blk (W.alloc (.cells #[.bool false, .slice none 0 0, .slice none 0 0] 66)).drew W.heap.size #[.bool false, .slice none 0 0, .slice none 0 0] 66 from Blk.new W _ _)
      refine ⟨KK.out _ A0.out, ?_⟩
      refine held_one (i := 2) (by kernel_rfl) (by rfl) (by rfl) ?_
      go_wp2_with fail
      refine (HG _ _ (Q2.out.call A0.out)).out.mono ?_; rintro e w3 ⟨⟨v3, rfl, hv3⟩, hb3⟩
      have x3 := hid (A0.out.trans (hb3.mono A0.out.size))
      have b3 := hid (b0.out.call hb3)
      have N3 := hid hv3
      obtain ⟨m5, a5, n5, c5, a6, n6, c6, rfl⟩ := hv3.qv
      clear hb3 hv3
      go_wp2_with fail
      refine ⟨KK.out _ x3.out, ?_⟩
      refine held_one (i := 3) (by kernel_rfl) (by rfl) (by rfl) ?_
      go_wp2_with fail
      refine (HO _ _ _ (Q1.out.call x3.out) N3.out).out.mono ?_; rintro e w4 ⟨⟨v4, rfl, hv4⟩, hb4⟩
      have x4 := hid (bnext x3.out hb4)
      have b4 := hid (b3.out.call hb4)
      obtain ⟨N, D, rfl, h1, h2⟩ := hv4.ex
      obtain ⟨a7, c7, rfl, -⟩ := h1.openI
      obtain ⟨a8, c8, rfl, -⟩ := h2.openI
      have t0 := b4.out.cell 0
      have t1 := b4.out.cell 1
      have t2 := b4.out.cell 2
      have t3 := b4.out.free 0
      have t4 := b4.out.free 1
      have t5 := b4.out.free 2
      simp at t0 t1 t2
      have ge := hid (Nat.le_refl W.heap.size)
      obtain ⟨k7, hk7⟩ : ∃ k, (limbs z.num.natAbs).length = k := ⟨_, rfl⟩
      obtain ⟨k8, hk8⟩ : ∃ k, (limbs z.den).length = k := ⟨_, rfl⟩
      obtain ⟨mz, hmz⟩ : ∃ m, decide (z.num < 0) = m := ⟨_, rfl⟩
      rw [hk7, hk8, hmz]
      have HK7 := hid hk7; have HMZ := hid hmz
      clear hb4 hv4 h1 h2 hk7 hk8 hmz
      go_wp2_with fail
      refine ⟨KK.out _ x4.out, ?_⟩
      refine held_one (i := 5) (by kernel_rfl) (by rfl) (by rfl) ?_
      go_wp2_with fail
      obtain ⟨s1, s2⟩ := set3 b4.out mz a7 a8 k7 c7 k8 c8
      have x5 := hid (below_set (below_set (below_set x4.out (i := 0) ge.out (.bool mz)) (i := 1) ge.out (.slice a7 k7 c7)) (i := 2) ge.out (.slice a8 k8 c8))
      have S2 := hid s2
      clear s1 s2 t0 t1 t2 t3 t4 t5
      refine ⟨KK.out _ x5.out, ?_⟩
      refine wpAnyH_done (by kernel_rfl) ?_ _
      simp only [Only]
      go_wp2_with fail
      go_meet
      exact ⟨_, _, _, _, _, _, _, rfl, by rw [HMZ.out]; exact S2, HK7.out.symm, x5⟩
  case rest =>
    obtain ⟨g, a5, n5, c5, a6, n6, c6, rfl, hB, hn, hW⟩ := hcut
    have r0 := hB.out.cell 0
    have r1 := hB.out.cell 1
    simp at r0 r1
    have yz := hid (bnext HY.out hW.out)
    by_cases h1 : z.num = 0
    · have es : Hid (sgnQ z = 0) := by show sgnQ z = 0; rw [sgnQ, if_pos h1]
      obtain rfl : n5 = 0 := by rw [hn.out, h1]; exact limbs_none.2 rfl
      clear h1
      go_wp2_with fail
      go_ret
      exact ⟨by rw [es.out]; rfl, yz.out⟩
    · have h2 : n5 ≠ 0 := fun e => h1 (by rw [hn.out] at e; have := limbs_none.1 e; omega)
      have q1 : ((n5 : Int) == 0) = false := by simp; omega
      obtain ⟨mm, hmm⟩ : ∃ m, decide (z.num < 0) = m := ⟨_, rfl⟩
      have es : sgnQ z = if mm = true then -1 else 1 := by
        rw [sgnQ, if_neg h1, ← hmm]; simp
      have ES := hid es
      rw [hmm] at r0
      clear h1 h2 es hmm
      cases mm
      all_goals
        go_wp2_with fail
        go_ret
        exact ⟨by rw [ES.out]; rfl, yz.out⟩
set_option maxRecDepth 100000 in
set_option maxHeartbeats 1000000 in
theorem r2_Cmp (w : World) (s t : ByteArray) (hs : s.size ≤ 1000000) (ht : t.size ≤ 1000000) :
    Calls Tryz.prog 15 #[.string s, .string t] w fun e w' => e = .returned (.tuple #[.int .i64 (cmB s t), .int .i64 (cmE s t)]) ∧ Below w.heap.size w w' := by
  have R1 := fun V => hid (r2_two V s t hs ht)
  clear hs ht
  by_cases h0 : qE s = 0 ∧ qE t = 0
  · have eB : cmB s t = ordQ (vQ s) (vQ t) := by rw [cmB, if_pos h0]
    have eE : cmE s t = 0 := by rw [cmE, if_pos h0.1, h0.2]
    rw [eB, eE]
    have ds := dig_of_fits (vQ_fits h0.1)
    have dt := dig_of_fits (vQ_fits h0.2)
    have HO := fun V v u hp hq => hid (r2_Order V v u (vQ s) (vQ t) hp hq ds dt)
    obtain ⟨o, ho⟩ : ∃ x, ordQ (vQ s) (vQ t) = x := ⟨_, rfl⟩
    rw [ho] at HO ⊢
    have H0 := hid h0
    clear eB eE ds dt ho h0
    go_enter Tryz.func15, Tryz.ntmps15
    go_wp2_with fail
    refine (R1 _).out.mono ?_; rintro e w1 ⟨⟨m, a, n, c, a', n', c', m2, b, j, d, b', j', d', rfl, hq⟩, hb1⟩
    obtain ⟨q1, q2⟩ := hq H0.out.1 H0.out.2
    rw [if_pos H0.out.1, H0.out.2]
    have b0 := ((Below.refl w1.heap.size w1).alloc (Nat.le_refl _) (.cells #[.bool m, .slice a n c, .slice a' n' c'] 66)).alloc (by simp) (.cells #[.bool m2, .slice b j d, .slice b' j' d'] 66)
    have y2 := hid (bnext hb1 b0)
    have H1 := HO _ _ _ (q1.call b0) (q2.call b0)
    clear hb1 q1 q2 hq b0 HO R1
    go_wp2_with fail
    refine H1.out.mono ?_; rintro e w2 ⟨rfl, hb2⟩
    have y3 := hid (bnext y2.out hb2)
    clear hb2 H1
    go_wp2_with fail
    go_ret2
    exact ⟨rfl, y3.out⟩
  · obtain ⟨n0, -, -⟩ := op2_err (f := (· - ·)) h0
    rw [cmB, if_neg h0, cmE]
    obtain ⟨x, hx⟩ : ∃ x, (if qE s = 0 then qE t else qE s) = x := ⟨_, rfl⟩
    rw [hx] at n0 ⊢
    have q0 : (x != 0) = true := by simpa using n0
    have HX := hid hx
    clear h0 n0 hx
    go_enter Tryz.func15, Tryz.ntmps15
    go_wp2_with fail
    refine (R1 _).out.mono ?_; rintro e w1 ⟨⟨m, a, n, c, a', n', c', m2, b, j, d, b', j', d', rfl, -⟩, hb1⟩
    rw [HX.out]
    have y2 := hid ((hb1.alloc hb1.size (.cells #[.bool m, .slice a n c, .slice a' n' c'] 66)).alloc (Nat.le_trans hb1.size (by simp)) (.cells #[.bool m2, .slice b j d, .slice b' j' d'] 66))
    clear hb1
    go_wp2_with fail
    go_ret2
    exact ⟨rfl, y2.out⟩
end Go.Proofs.YtpehhgkghgbhiaaGreatDoor
namespace Go.Proofs.YtpehhgkghgbhiaaGreatDoor
open Go.RowKit
open Go.Lib (decDigits nDigits)
set_option linter.unusedVariables false
set_option linter.unusedSimpArgs false
theorem pow_nn {q : Rat} (h : 0 ≤ q.num) (n : Nat) : (q ^ n).num.natAbs = q.num.natAbs ^ n ∧ (q ^ n).den = q.den ^ n ∧ decide ((q ^ n).num < 0) = false := by
  have h1 : 0 ≤ q.num ^ n := Int.pow_nonneg h
  refine ⟨by rw [Rat.num_pow, Int.natAbs_pow], Rat.den_pow q n, ?_⟩
  rw [Rat.num_pow]
  simpa using h1
set_option maxRecDepth 100000 in
set_option maxHeartbeats 2000000 in
theorem r2_Pow_nat (w : World) (s : ByteArray) (n : Nat) (hs : s.size ≤ 1000000) (hq : qE s = 0) (h0 : 0 ≤ (vQ s).num) (hn : n ≤ 1000000000) :
    Calls Tryz.prog 11 #[.string s, .int .i64 (n : Nat)] w fun e w' => e = .returned (.tuple #[.string (outB (vQ s ^ n)), .int .i64 (outE (vQ s ^ n))]) ∧ Below w.heap.size w w' := by
  have R1 := hid (r2_Read w s hs)
  obtain ⟨p1, p2, p3⟩ := pow_nn h0 n
  have fits := vQ_fits hq
  have P1 := fun V v h => hid (r1_Power V v (vQ s).num.natAbs n h (by unfold ovQ at fits; omega) (by omega))
  have P2 := fun V v h => hid (r1_Power V v (vQ s).den n h (by unfold ovQ at fits; omega) (by omega))
  have PW := fun V v h (h1 : nDigits ((vQ s).num.natAbs ^ n) ≤ 4000) (h2 : nDigits ((vQ s).den ^ n) ≤ 4000) => hid (r2_Write V v (vQ s ^ n) h (by rw [p1]; exact Nat.le_trans (limbs_of_digits h1) (by omega)) (by rw [p2]; exact Nat.le_trans (limbs_of_digits h2) (by omega)))
  have OV := hid (fun (h : 4000 < nDigits ((vQ s).num.natAbs ^ n) ∨ 4000 < nDigits ((vQ s).den ^ n)) => (show outB (vQ s ^ n) = ⟨#[]⟩ ∧ outE (vQ s ^ n) = 5 from by
    have : ovQ (vQ s ^ n) := by unfold ovQ; rw [p1, p2]; exact h
    exact ⟨if_pos this, if_pos this⟩))
  have t1 : decide ((n : Int) < 0) = false := by simp
  have t2 : ((n : Int) == -9223372036854775808) = false := by rw [beq_eq_false_iff_ne]; omega
  have m0 : decide ((vQ s).num < 0) = false := by simpa using h0
  have HQ := hid hq; have HP1 := hid p1; have HP2 := hid p2; have HP3 := hid p3; have HM0 := hid m0
  clear hs hq p1 p2 p3 h0 m0 fits
  go_enter Tryz.func11, Tryz.ntmps11
  go_wp2_with fail
  refine R1.out.mono ?_; rintro e w1 ⟨⟨v, rfl, hv, -⟩, hb1⟩
  obtain ⟨N, D, rfl, hN, hD⟩ := (hv HQ.out).ex
  have HN := hid hN; have HD := hid hD
  obtain ⟨a1, c1, rfl, -⟩ := hN.openI
  obtain ⟨a2, c2, rfl, -⟩ := hD.openI
  rw [HM0.out, HQ.out]
  obtain ⟨k1, hk1⟩ : ∃ k, (limbs (vQ s).num.natAbs).length = k := ⟨_, rfl⟩
  obtain ⟨k2, hk2⟩ : ∃ k, (limbs (vQ s).den).length = k := ⟨_, rfl⟩
  rw [hk1] at HN ⊢
  rw [hk2] at HD ⊢
  have y1 := hid hb1
  have X1 := hid (Blk.new w1 #[.bool false, .slice a1 k1 c1, .slice a2 k2 c2] 66)
  have A1 := hid ((Below.refl w1.heap.size w1).alloc (Nat.le_refl _) (.cells #[.bool false, .slice a1 k1 c1, .slice a2 k2 c2] 66))
  clear hb1 hv hN hD hk1 hk2
  go_wp2_with fail
  refine (P1 _ _ (HN.out.call A1.out)).out.mono ?_
  rintro e w2 ⟨h, hb2⟩
  have X2 := hid (X1.out.call hb2)
  have y2 := hid (bnext (bnext y1.out A1.out) hb2)
  have D2 := hid ((HD.out.call A1.out).call hb2)
  have r2 := X2.out.cell 2
  simp at r2
  rcases h with ⟨d1, v3, rfl, hv3⟩ | ⟨d1, rfl⟩
  · have N2 := hid hv3; have DD1 := hid d1
    obtain ⟨a3, c3, rfl, -⟩ := hv3.openI
    obtain ⟨k3, hk3⟩ : ∃ k, (limbs ((vQ s).num.natAbs ^ n)).length = k := ⟨_, rfl⟩
    rw [hk3] at N2 ⊢
    clear hb2 hv3 d1 hk3
    go_wp2_with fail
    refine (P2 _ _ D2.out).out.mono ?_
    rintro e w3 ⟨h, hb3⟩
    have y3 := hid (bnext y2.out hb3)
    have N3 := hid (N2.out.call hb3)
    rcases h with ⟨d2, v4, rfl, hv4⟩ | ⟨d2, rfl⟩
    · have D3 := hid hv4; have DD2 := hid d2
      obtain ⟨a4, c4, rfl, -⟩ := hv4.openI
      obtain ⟨k4, hk4⟩ : ∃ k, (limbs ((vQ s).den ^ n)).length = k := ⟨_, rfl⟩
      rw [hk4] at D3 ⊢
      have iq : IsQ .i64 w3 (.agg #[.bool false, .slice a3 k3 c3, .slice a4 k4 c4]) (vQ s ^ n) := ⟨.slice a3 k3 c3, .slice a4 k4 c4, by rw [HP3.out], by rw [HP1.out]; exact N3.out, by rw [HP2.out]; exact D3.out⟩
      have IQ := hid iq
      clear hb3 hv4 d2 hk4 iq
      go_wp2_with fail
      refine (PW _ _ IQ.out DD1.out DD2.out).out.mono ?_; rintro e w4 ⟨rfl, hb4⟩
      have y4 := hid (bnext y3.out hb4)
      clear hb4
      go_wp2_with fail
      go_ret2
      exact ⟨rfl, y4.out⟩
    · obtain ⟨o1, o2⟩ := OV.out (.inr d2)
      have O1 := hid o1; have O2 := hid o2
      clear hb3 d2 o1 o2
      go_wp2_with fail
      go_ret2
      exact ⟨by rw [O1.out, O2.out]; rfl, y3.out⟩
  · obtain ⟨o1, o2⟩ := OV.out (.inl d1)
    have O1 := hid o1; have O2 := hid o2
    clear hb2 d1 o1 o2
    go_wp2_with fail
    refine (P2 _ _ D2.out).out.mono ?_
    rintro e w3 ⟨h, hb3⟩
    have y3 := hid (bnext y2.out hb3)
    rcases h with ⟨-, v4, rfl, hv4⟩ | ⟨-, rfl⟩
    all_goals
      try obtain ⟨a4, c4, rfl, -⟩ := hv4.openI
      try clear hv4
      clear hb3
      go_wp2_with fail
      go_ret2
      exact ⟨by rw [O1.out, O2.out]; rfl, y3.out⟩
end Go.Proofs.YtpehhgkghgbhiaaGreatDoor
namespace Go.Proofs.YtpehhgkghgbhiaaGreatDoor
open Go.RowKit Go.Shelf
open Go.Lib (decDigits nDigits)
set_option linter.unusedVariables false
set_option linter.unusedSimpArgs false
set_option maxRecDepth 100000 in
set_option maxHeartbeats 1000000 in
theorem r2_Min (w : World) (s t : ByteArray) (hs : s.size ≤ 1000000) (ht : t.size ≤ 1000000) :
    Calls Tryz.prog 75 #[.string s, .string t] w fun e w' => e = .returned (.tuple #[.string (mnB s t), .int .i64 (cmE s t)]) ∧ Below w.heap.size w w' := by
  have H := hid (r2_Cmp w s t hs ht)
  unfold mnB
  have h3 := cmB_three s t
  obtain ⟨B, hB⟩ : ∃ B, cmB s t = B := ⟨_, rfl⟩
  obtain ⟨E, hE⟩ : ∃ E, cmE s t = E := ⟨_, rfl⟩
  rw [hB] at h3
  rw [hB, hE] at H ⊢
  clear hB hE hs ht
  by_cases he : E = 0
  · subst he
    rcases h3 with rfl | rfl | rfl
    · go_enter Tryz.func75, Tryz.ntmps75
      go_wp2_with fail
      refine H.out.mono ?_; rintro e w3 ⟨rfl, hb3⟩
      have y3 := hid hb3; clear hb3
      go_wp2_with fail
      go_ret2
      exact ⟨rfl, y3.out⟩
    · go_enter Tryz.func75, Tryz.ntmps75
      go_wp2_with fail
      refine H.out.mono ?_; rintro e w3 ⟨rfl, hb3⟩
      have y3 := hid hb3; clear hb3
      go_wp2_with fail
      go_ret2
      exact ⟨rfl, y3.out⟩
    · go_enter Tryz.func75, Tryz.ntmps75
      go_wp2_with fail
      refine H.out.mono ?_; rintro e w3 ⟨rfl, hb3⟩
      have y3 := hid hb3; clear hb3
      go_wp2_with fail
      go_ret2
      exact ⟨rfl, y3.out⟩
  · rw [if_neg he]
    have q0 : (E == 0) = false := by simpa using he
    have q1 : (E != 0) = true := by simpa using he
    clear he h3
    go_enter Tryz.func75, Tryz.ntmps75
    go_wp2_with fail
    refine H.out.mono ?_; rintro e w3 ⟨rfl, hb3⟩
    have y3 := hid hb3; clear hb3
    go_wp2_with fail
    go_ret2
    exact ⟨rfl, y3.out⟩
set_option maxRecDepth 100000 in
set_option maxHeartbeats 1000000 in
theorem r22_LateE (w : World) (many n : Int) (h : ltcE many n ≠ 0) :
    Calls Tryz.prog 34 #[.int .i64 many, .int .i64 n] w fun e w' => e = .returned (.tuple #[.string (ltcB many n), .int .i64 (ltcE many n)]) ∧ Below w.heap.size w w' := by
  have e1 : ltcB many n = ⟨#[]⟩ := if_neg h
  have h2 : many < 1 ∨ 64 < many ∨ n < 0 ∨ 256 < n := Decidable.not_not.1 fun hn => h (if_neg hn)
  have e2 : ltcE many n = 2 := if_pos h2
  rw [e1, e2]
  clear e1 e2 h
  by_cases h3 : many < 1
  · have q0 : decide (many < 1) = true := by simpa using h3
    clear h2 h3
    go_enter Tryz.func34, Tryz.ntmps34
    go_wp2_with fail
    go_ret2
    exact ⟨rfl, Below.refl _ _⟩
  have q0 : decide (many < 1) = false := by simpa using h3
  by_cases h4 : 64 < many
  · have q1 : decide (64 < many) = true := by simpa using h4
    clear h2 h3 h4
    go_enter Tryz.func34, Tryz.ntmps34
    go_wp2_with fail
    go_ret2
    exact ⟨rfl, Below.refl _ _⟩
  have q1 : decide (64 < many) = false := by simpa using h4
  by_cases h5 : n < 0
  · have q2 : decide (n < 0) = true := by simpa using h5
    clear h2 h3 h4 h5
    go_enter Tryz.func34, Tryz.ntmps34
    go_wp2_with fail
    go_ret2
    exact ⟨rfl, Below.refl _ _⟩
  have q2 : decide (n < 0) = false := by simpa using h5
  have q3 : decide (256 < n) = true := by simp; omega
  clear h2 h3 h4 h5
  go_enter Tryz.func34, Tryz.ntmps34
  go_wp2_with fail
  go_ret2
  exact ⟨rfl, Below.refl _ _⟩
set_option maxRecDepth 100000 in
set_option maxHeartbeats 1000000 in
theorem r22_Late (w : World) (many n : Int) :
    Calls Tryz.prog 34 #[.int .i64 many, .int .i64 n] w fun e w' => e = .returned (.tuple #[.string (ltcB many n), .int .i64 (ltcE many n)]) ∧ Below w.heap.size w w' := by
  by_cases h : ltcE many n = 0
  · obtain ⟨k, m, rfl, hk, rfl, hm⟩ := lt_ok h
    obtain ⟨e1, e2⟩ := lt_at hk hm
    rw [e1, e2]
    have P1 := fun V => hid (r2_Pow_nat V ⟨#[49, 47, 50]⟩ m (by decide) half_ok.1 (by rw [half_ok.2.1]; exact half_ok.2.2) (by omega))
    rw [half_ok.2.1, (near_pow hm).1, (near_pow hm).2] at P1
    have hkd := few_nd hk
    have nm := near_mul hm (k := k) (by omega)
    have f1 : ¬ ovQ (szQ (2 ^ m)) := (sz_dig hm).fits (by omega) (by omega)
    have P2 := fun V => hid (r2_Mul V (numB k) (txQ (szQ (2 ^ m))) (numB_sz (by omega)) (Nat.le_trans (tx_size f1) (by omega)))
    rw [nm.1, nm.2, ← lt_tx hk hm] at P2
    have P3 := fun V => hid (r2_Min V (shB k (2 ^ m)) ⟨#[49]⟩ (Nat.le_trans sh_size (by omega)) (by decide))
    rw [(lt_one hk hm).2, lt_min hk hm] at P3
    have PI := fun V => hid (r2_Int V k (by omega))
    obtain ⟨H, hH⟩ : ∃ s, txQ (szQ (2 ^ m)) = s := ⟨_, rfl⟩
    obtain ⟨S, hS⟩ : ∃ s, shB k (2 ^ m) = s := ⟨_, rfl⟩
    obtain ⟨K, hK⟩ : ∃ s, numB k = s := ⟨_, rfl⟩
    obtain ⟨L, hL⟩ : ∃ s, ltcV k m = s := ⟨_, rfl⟩
    rw [hH] at P1 P2
    rw [hS] at P2 P3
    rw [hK] at P2 PI
    rw [hL] at P3 ⊢
    have q0 : decide (((k + 1 : Nat) : Int) < 1) = false := by simp; omega
    have q1 : decide (64 < ((k + 1 : Nat) : Int)) = false := by simp; omega
    have q2 : decide ((m : Int) < 0) = false := by simp
    have q3 : decide (256 < (m : Int)) = false := by simp; omega
    have wk : IntKind.i64.wrap (((k + 1 : Nat) : Int) - 1) = (k : Int) := by rw [IntWalk.i64_in _ ⟨by omega, by omega⟩]; omega
    obtain ⟨z, hz⟩ : ∃ z, ((k + 1 : Nat) : Int) = z := ⟨_, rfl⟩
    rw [hz] at q0 q1 wk ⊢
    clear h e1 e2 hkd nm f1 hH hS hK hL hk hm hz
    go_enter Tryz.func34, Tryz.ntmps34
    go_wp2_with fail
    refine (P1 _).out.mono ?_; rintro e w1 ⟨rfl, hb1⟩
    have y1 := hid hb1; clear hb1
    go_wp2_with fail
    refine (PI _).out.mono ?_; rintro e w2 ⟨rfl, rfl⟩
    go_wp2_with fail
    refine (P2 _).out.mono ?_; rintro e w3 ⟨rfl, hb3⟩
    have y3 := hid (bnext y1.out hb3); clear hb3
    go_wp2_with fail
    refine (P3 _).out.mono ?_; rintro e w4 ⟨rfl, hb4⟩
    have y4 := hid (bnext y3.out hb4); clear hb4
    go_wp2_with fail
    go_ret2
    exact ⟨rfl, y4.out⟩
  · exact r22_LateE w many n h
end Go.Proofs.YtpehhgkghgbhiaaGreatDoor
namespace Go.Proofs.YtpehhgkghgbhiaaGreatDoor
open Go.RowKit
set_option linter.unusedVariables false
set_option linter.unusedSimpArgs false
/-- An append of a slice that came in, nil too. -/
theorem run_append_any {P : Program} (w : World) (base : Nat) (t ty e : TypeId) (i : TypeInfo) (z : Value) (size bytes : Nat) (ht : P.underlying t = some (.slice e)) (hi : P.info? e = some i) (hz : i.zero = some z)
    (hsize : i.size = size) (hby : i.bytes = bytes) (hzs : z.cells.size = size) (hsz : 0 < size)
    (v : Value) (n : Nat) (xs : List Value) (hown : w.ownsRow base e size v n xs) (hv : v ≠ .slice none 0 0)
    (ao : Option Addr) (m c : Nat) (news : List Value) (hl : news.length = m * size) (hnews : ∀ j u, news[j]? = some u → ∃ ad, ao = some ad ∧ w.cell? (ad.add j) = some u) (h1 : ∀ u ∈ news, u.oneCell' = true)
    (h63 : n + m ≤ maxLen) (hbytes : (n + m) * bytes ≤ 140737488355328) (hbase : base ≤ w.heap.size) :
    ∃ v' w', (Builtin.append_ #[t, t] ty #[v, .slice ao m c]).run P w = .ok v' w' ∧ w'.ownsRow base e size v' (n + m) (xs ++ news) ∧ w.grownBy w' v.ownBlock ∧ v' ≠ .slice none 0 0 := by
  cases ao with
  | some ad =>
    obtain ⟨v', w', hr, k1, k2, k3, -⟩ := run_append_own_at (P := P) w base t ty e i z size bytes ht hi hz hsize hby hzs hsz v n xs hown ad m c news hl (fun j u hu => by obtain ⟨ad', e', hc⟩ := hnews j u hu; cases e'; exact hc) h1 h63 hbytes hbase
    exact ⟨v', w', hr, k1, k2, fun e => hv (k3.1 e).1⟩
  | none =>
    have hn : news = [] := by
      cases news with
      | nil => rfl
      | cons u r => obtain ⟨ad, e, _⟩ := hnews 0 u rfl; cases e
    subst hn
    have hm : m = 0 := by
      rcases Nat.eq_zero_or_pos m with h | h
      · exact h
      · have := Nat.mul_pos h hsz; simp at hl; omega
    subst hm
    refine ⟨v, w, ?_, by simpa using hown, ⟨rfl, rfl, rfl, Nat.le_refl _, fun _ _ _ => rfl⟩, hv⟩
    rcases hown.2 with ⟨e, _⟩ | ⟨g, cap, cur, rfl, hb, hg, h1', h2', h3', h4'⟩
    · exact absurd e hv
    · simp [Builtin.append_, run_underlying ht, sizeOf, typeInfo, hi, Builtin.lenOf, Builtin.firstCells, loadCells, loadCellsFrom, storeCells, h1']
theorem wpList_append_any {P : Program} {w : World} {ops : Array Oper} {rest : List Oper} {o : Oper} {a : Act} {Q : Exit → Act → World → Prop} (hgd : o.guard = none) (s x : Operand) (t : TypeId)
    (ho : o.op = .call { callee := .builtin .append, args := #[s, x], argTypes := #[t, t] })
    (base : Nat) (e : TypeId) (i : TypeInfo) (z : Value) (size bytes : Nat) (ht : P.underlying t = some (.slice e)) (hi : P.info? e = some i) (hz : i.zero = some z)
    (hsize : i.size = size) (hby : i.bytes = bytes) (hzs : z.cells.size = size) (hsz : 0 < size)
    (v : Value) (n : Nat) (xs : List Value) (hs : a.eval s = v) (hown : w.ownsRow base e size v n xs) (hv : v ≠ .slice none 0 0)
    (ao : Option Addr) (m c : Nat) (news : List Value) (hx : a.eval x = .slice ao m c) (hl : news.length = m * size) (hnews : ∀ j u, news[j]? = some u → ∃ ad, ao = some ad ∧ w.cell? (ad.add j) = some u) (h1 : ∀ u ∈ news, u.oneCell' = true)
    (h63 : n + m ≤ maxLen) (hbytes : (n + m) * bytes ≤ 140737488355328) (hbase : base ≤ w.heap.size)
    (h : ∀ v' w', w'.ownsRow base e size v' (n + m) (xs ++ news) → w.grownBy w' v.ownBlock → v' ≠ .slice none 0 0 → wpList P ops Q rest (a.put o.dst v') w') :
    wpList P ops Q (o :: rest) a w := by
  refine wpList_plain hgd fun K hK => ?_
  obtain ⟨v', w', hr, h2, h3, h4⟩ := run_append_any (P := P) w base t o.type e i z size bytes ht hi hz hsize hby hzs hsz v n xs hown hv ao m c news hl hnews h1 h63 hbytes hbase
  unfold Oper.wp execOp
  simp only [ho, resolve, invoke, builtin, Sem.run_bind, Sem.run_pure, Result.andThen_ok, List.map_toArray, List.map_cons, List.map_nil, hs, hx, hr]
  exact hK _ _ (h v' w' h2 h3 h4)
theorem owned_below {w W w3 : World} {t : TypeId} {z : Nat} {v : Value} {m : Nat} {vs : List Value} (h : W.ownsRow w.heap.size t z v m vs) (h0 : Below w.heap.size w W) (hg : W.grownBy w3 v.ownBlock) : Below w.heap.size w w3 := by
  refine h0.trans ⟨hg.os, hg.tape, hg.output, hg.size, fun j hj => hg.block j (Nat.lt_of_lt_of_le hj h0.size) fun e => ?_⟩
  have := (h.lt j e.symm).1
  omega
end Go.Proofs.YtpehhgkghgbhiaaGreatDoor
namespace Go.Proofs.YtpehhgkghgbhiaaGreatDoor
open Go.RowKit Go.Shelf
open Go.Lib (decDigits nDigits)
set_option linter.unusedVariables false
set_option linter.unusedSimpArgs false
theorem info_intO : (Tryz.prog.info? 3).map (fun i => (i.zero, i.size, i.bytes)) = some (some (.int .i64 0), 1, 8) := by kernel_rfl
set_option maxRecDepth 100000 in
set_option maxHeartbeats 1000000 in
theorem k_OwnI (w : World) (v : Value) (l : List Int) (hv : Row w v (zs l)) (hl : l.length ≤ 1000000) :
    Calls Tryz.prog 28 #[v] w fun e w' => (∃ u, e = .returned u ∧ Row w' u (zs l)) ∧ Below w.heap.size w w' := by
  obtain ⟨i0, hi, hz0, hz1, hz2⟩ := info_parts info_intO
  obtain ⟨a, c, rfl, q1, q2, q3⟩ := hv.ex
  rw [zs_length] at *
  have SRC : Hid (∀ j u, (zs l)[j]? = some u → ∃ ad, a = some ad ∧ (w.alloc (.cells #[] 3)).cell? (ad.add j) = some u) := fun j u hu => by
    obtain ⟨g, o, rfl, hg, hc⟩ := q3 j u hu
    refine ⟨_, rfl, ?_⟩
    rw [Addr.add_lit]
    exact (((Below.refl w.heap.size w).alloc (Nat.le_refl _) (.cells #[] 3)).cell (p := ⟨g, o + j, none⟩) hg).trans hc
  have HO := hid (show (w.alloc (.cells #[] 3)).ownsRow w.heap.size 3 1 (.slice (some ⟨w.heap.size, 0, none⟩) 0 0) 0 [] from World.ownsRow_made _ _ 0 (Nat.le_refl _) (by unfold maxLen; omega) rfl)
  have HB := hid ((Below.refl w.heap.size w).alloc (Nat.le_refl _) (.cells #[] 3))
  obtain ⟨n, hn⟩ : ∃ n, l.length = n := ⟨_, rfl⟩
  have HN := hid (show (zs l).length = n * 1 from by rw [zs_length, hn]; omega)
  rw [hn] at hl q1 ⊢
  clear hv q3 hn
  go_enter Tryz.func28, Tryz.ntmps28
  go_wp2_with (at_builtin; refine wpList_append_any rfl _ _ 22 rfl w.heap.size 3 i0 (.int .i64 0) 1 8 Tryz.underlying22 hi hz0 hz1 hz2 rfl (by decide) (.slice (some ⟨w.heap.size, 0, none⟩) 0 0) 0 [] rfl HO.out (by intro e; cases e) a n c (zs l) rfl HN.out SRC.out (zs_one l) (by unfold maxLen; omega) (by omega) (by simp) ?_; intro v1 w1 hown1 hg1 hne1; have O1 := hid hown1; have G1 := hid hg1; clear hown1 hg1 hne1)
  go_ret
  exact ⟨⟨_, rfl, Row.of_owns O1.out⟩, owned_below HO.out HB.out G1.out⟩
end Go.Proofs.YtpehhgkghgbhiaaGreatDoor
namespace Go.Proofs.YtpehhgkghgbhiaaGreatDoor
open Go.RowKit Go.Shelf
open Go.Lib (decDigits nDigits)
set_option linter.unusedVariables false
set_option linter.unusedSimpArgs false
set_option maxRecDepth 100000 in
set_option maxHeartbeats 2000000 in
theorem k_SameI (w : World) (v u : Value) (L M : List Int) (hv : Row w v (zs L)) (hu : Row w u (zs M)) :
    Calls Tryz.prog 35 #[v, u] w fun e w' => e = .returned (.bool (decide (L = M))) ∧ Below w.heap.size w w' := by
  obtain ⟨a, c, rfl, h1, h2, h3⟩ := hv.openZ
  obtain ⟨a', c', rfl, h1', h2', h3'⟩ := hu.openZ
  obtain ⟨n, hn⟩ : ∃ n, L.length = n := ⟨_, rfl⟩
  obtain ⟨m, hm⟩ : ∃ n, M.length = n := ⟨_, rfl⟩
  rw [hn] at h1 ⊢
  rw [hm] at h1' ⊢
  have H3 := hid h3; have H3' := hid h3'; have HN := hid hn; have HM := hid hm
  clear hv hu h3 h3'
  by_cases hnm : n = m
  · subst hnm
    have q0 : ((n : Int) != (n : Int)) = false := by simp
    clear hn hm
    go_enter Tryz.func35, Tryz.ntmps35
    go_wp2_with fail
    go_loopw [5] (fun ii wr => ∃ i : Nat, ii = .int .i64 (i : Nat) ∧ i ≤ n ∧ Hid (∀ j, j < i → L[j]? = M[j]?) ∧ Hid (Below w.heap.size w wr)) (fun ii wr => n - (intOf ii).toNat)
    case atStart => exact ⟨0, rfl, Nat.zero_le _, fun j hj => absurd hj (by omega), Below.refl _ _⟩
    case round =>
      obtain ⟨i, rfl, hi, hI, hB⟩ := hrel
      by_cases hlt : i < n
      · obtain ⟨x, hx⟩ : ∃ x, L[i]? = some x := ⟨_, List.getElem?_eq_getElem (by rw [HN.out]; exact hlt)⟩
        obtain ⟨y, hy⟩ : ∃ x, M[i]? = some x := ⟨_, List.getElem?_eq_getElem (by rw [HM.out]; exact hlt)⟩
        obtain ⟨g, o, rfl, hg, k1⟩ := H3.out i x hx
        obtain ⟨g', o', rfl, hg', k1'⟩ := H3'.out i y hy
        have HX := hid hx; have HY := hid hy
        have m1 := (hB.out.cell (p := ⟨g, o + i, none⟩) hg).trans k1
        have m3 := (hB.out.cell (p := ⟨g', o' + i, none⟩) hg').trans k1'
        have b1 : (0 : Int) ≤ (i : Int) := by omega
        have b2 : (i : Int) < (n : Int) := by omega
        have wi : IntKind.i64.wrap ((i : Int) + 1) = (i : Int) + 1 := by rw [IntWalk.i64_in _ ⟨by omega, by omega⟩]
        clear k1 k1' hx hy hg hg'
        by_cases he1 : x = y
        · subst he1
          have n1 : (x != x) = false := by simp
          go_wp2_with fail
          refine held_plain [0, 1, 2, 3, 4, 5, 6, 7, 8] 0 (fun w' => w'.cell? ⟨g, o + i, none⟩ = some (.int .i64 x) ∧ w'.cell? ⟨g', o' + i, none⟩ = some (.int .i64 x)) (by kernel_rfl) (by kernel_rfl) (by kernel_rfl) (by kernel_rfl) ⟨m1, m3⟩ ?_
          iterate 9
            refine ⟨_, rfl, ?_⟩
            apply Exists.intro
            refine ⟨.inl ⟨by rfl, ?_⟩, ?_⟩
            · (intro W' hW'; obtain ⟨q1, q2⟩ := hW'; go_simp; try (with_reducible rfl))
            (dsimp only [Act.put]; try simp only [List.setIfInBounds_toArray, List.set_cons_zero, List.set_cons_succ])
          refine wpAnyH_done (by kernel_rfl) ?_ _
          simp only [Only]
          go_wp2_with fail
          go_roundw
          case rel => exact ⟨i + 1, rfl, by omega, fun j hj => by
            rcases Nat.lt_or_ge j i with h | h
            · exact hI.out j h
            · obtain rfl : j = i := by omega
              rw [HX.out, HY.out], hB.out.drew⟩
          case measure => simp [intOf] <;> omega
        · have n1 : (x != y) = true := by simpa using he1
          have hne : decide (L = M) = false := by
            rw [decide_eq_false_iff_not]; rintro rfl
            have := HX.out.symm.trans HY.out
            simp only [Option.some.injEq] at this
            exact he1 this
          have HNE := hid hne
          clear hne he1
          go_wp2_with fail
          refine held_plain [0, 1, 2, 3, 4, 5, 6, 7, 8] 0 (fun w' => w'.cell? ⟨g, o + i, none⟩ = some (.int .i64 x) ∧ w'.cell? ⟨g', o' + i, none⟩ = some (.int .i64 y)) (by kernel_rfl) (by kernel_rfl) (by kernel_rfl) (by kernel_rfl) ⟨m1, m3⟩ ?_
          iterate 9
            refine ⟨_, rfl, ?_⟩
            apply Exists.intro
            refine ⟨.inl ⟨by rfl, ?_⟩, ?_⟩
            · (intro W' hW'; obtain ⟨q1, q2⟩ := hW'; go_simp; try (with_reducible rfl))
            (dsimp only [Act.put]; try simp only [List.setIfInBounds_toArray, List.set_cons_zero, List.set_cons_succ])
          refine wpAnyH_done (by kernel_rfl) ?_ _
          simp only [Only]
          go_wp2_with fail
          go_ret
          exact ⟨by rw [HNE.out]; rfl, hB.out.drew⟩
      · obtain rfl : i = n := by omega
        have hE : L = M := by
          apply List.ext_getElem?
          intro j
          by_cases hj : j < i
          · exact hI.out j hj
          · rw [List.getElem?_eq_none (by rw [HN.out]; omega), List.getElem?_eq_none (by rw [HM.out]; omega)]
        have HE := hid hE
        have q1 : decide ((i : Int) < (i : Int)) = false := by simp
        clear hE
        go_wp2_with fail
        go_ret
        exact ⟨by rw [decide_eq_true HE.out]; rfl, hB.out⟩
  · have hE : decide (L = M) = false := by rw [decide_eq_false_iff_not]; rintro rfl; exact hnm (hn.symm.trans hm)
    have HE := hid hE
    have q0 : ((n : Int) != (m : Int)) = true := by simp; omega
    clear hn hm hE
    go_enter Tryz.func35, Tryz.ntmps35
    go_wp2_with fail
    go_ret
    exact ⟨by rw [HE.out]; rfl, Below.refl _ _⟩
end Go.Proofs.YtpehhgkghgbhiaaGreatDoor
namespace Go.Proofs.YtpehhgkghgbhiaaGreatDoor
open Go.RowKit Go.Shelf
open Go.Lib (decDigits nDigits)
set_option linter.unusedVariables false
set_option linter.unusedSimpArgs false
set_option maxRecDepth 100000 in
set_option maxHeartbeats 4000000 in
theorem cc_over (w : World) (v : Value) (us : List Int) (s b : ByteArray) (B many n : Int) (hv : Row w v (zs us)) (hL : Lay w)
    (h : 70 < us.length ∨ 40 < s.size ∨ 300 < b.size ∨ (60 < B ∧ B ≤ 400)) :
    Calls Tryz.prog 7 #[v, .string s, .int .i64 B, .int .i64 many, .string b, .int .i64 n] w fun e w' => e = .returned (.bool true) ∧ Below w.heap.size w w' := by
  have HLV := hid (w_lives w hL)
  obtain ⟨a, c, rfl, c1, c2, -⟩ := hv.openZ
  obtain ⟨N, hN⟩ : ∃ N, us.length = N := ⟨_, rfl⟩
  rw [hN] at c1 h ⊢
  obtain ⟨b1, k1⟩ : ∃ b, decide ((70 : Int) < (N : Int)) = b := ⟨_, rfl⟩
  obtain ⟨b2, k2⟩ : ∃ b, decide ((40 : Int) < (s.size : Int)) = b := ⟨_, rfl⟩
  obtain ⟨b3, k3⟩ : ∃ x, decide ((300 : Int) < (b.size : Int)) = x := ⟨_, rfl⟩
  obtain ⟨b4, k4⟩ : ∃ b, decide (60 < B) = b := ⟨_, rfl⟩
  obtain ⟨b5, k5⟩ : ∃ b, decide (B ≤ 400) = b := ⟨_, rfl⟩
  have k6 : (b1 || b2 || b3 || (b4 && b5)) = true := by
    rw [← k1, ← k2, ← k3, ← k4, ← k5]
    simp only [Bool.or_eq_true, Bool.and_eq_true, decide_eq_true_eq]
    omega
  clear hv hL hN h
  cases b1
  · cases b2
    · cases b3
      · obtain ⟨rfl, rfl⟩ : b4 = true ∧ b5 = true := by simpa using k6
        clear k6
        go_enter Tryz.func7, Tryz.ntmps7
        go_wp2_with fail
        refine HLV.out.mono ?_; rintro e w1 ⟨rfl, hb1⟩
        have y1 := hid hb1; clear hb1
        go_wp2_with fail
        go_ret
        exact ⟨rfl, y1.out⟩
      · clear k4 k5 k6
        go_enter Tryz.func7, Tryz.ntmps7
        go_wp2_with fail
        refine HLV.out.mono ?_; rintro e w1 ⟨rfl, hb1⟩
        have y1 := hid hb1; clear hb1
        go_wp2_with fail
        go_ret
        exact ⟨rfl, y1.out⟩
    · clear k3 k4 k5 k6
      go_enter Tryz.func7, Tryz.ntmps7
      go_wp2_with fail
      refine HLV.out.mono ?_; rintro e w1 ⟨rfl, hb1⟩
      have y1 := hid hb1; clear hb1
      go_wp2_with fail
      go_ret
      exact ⟨rfl, y1.out⟩
  · clear k2 k3 k4 k5 k6
    go_enter Tryz.func7, Tryz.ntmps7
    go_wp2_with fail
    refine HLV.out.mono ?_; rintro e w1 ⟨rfl, hb1⟩
    have y1 := hid hb1; clear hb1
    go_wp2_with fail
    go_ret
    exact ⟨rfl, y1.out⟩
set_option maxRecDepth 100000 in
set_option maxHeartbeats 8000000 in
theorem cc_main (w : World) (v : Value) (us : List Int) (s b : ByteArray) (B many n : Int) (hv : Row w v (zs us)) (hL : Lay w)
    (h1 : us.length ≤ 70) (h2 : s.size ≤ 40) (h3 : b.size ≤ 300) (h4 : B ≤ 60 ∨ 400 < B) :
    Calls Tryz.prog 7 #[v, .string s, .int .i64 B, .int .i64 many, .string b, .int .i64 n] w fun e w' => e = .returned (.bool true) ∧ Below w.heap.size w w' := by
  have HLV := hid (w_lives w hL)
  have HV := hid hv; have HL := hid hL
  have z1 : s.size ≤ 100000 := by omega
  have z2 : b.size ≤ 100000000 := by omega
  have PO := fun V hV => hid (k_OwnI V v us hV (by omega))
  have P1 := fun V hV => hid (ch_MaxBound V s z1 hV)
  have P2 := fun V => hid (r22_MaxBound V s (by omega))
  have P3 := fun V v hV hLV => hid (ch_Weights V v us s B hV z1 hLV)
  have P4 := fun V hV => hid (r22_Weights V v us s B hV z1)
  have P5 := fun V v hV hLV => hid (ch_Draw V v us s B b hV z1 z2 hLV)
  have P6 := fun V hV => hid (r22_Draw V v us s B b hV z1 z2)
  have P7 := fun V v hV hLV => hid (ch_Exact V v us s B hV z1 hLV)
  have P8 := fun V hV => hid (r22_Exact V v us s B hV z1)
  have P9 := fun V v hV hLV => hid (ch_Law V v us s B n hV z1 hLV)
  have P10 := fun V hV => hid (r22_Law V v us s B n hV z1)
  have P11 := fun V hV => hid (ch_Late V many n hV)
  have P12 := fun V => hid (r22_Late V many n)
  have PS := fun V u v hu hv => hid (k_SameS V u v (cwR us s B) (cwR us s B) hu hv)
  have PI := fun V u hu hv => hid (k_SameI V u v us us hu hv)
  have PM1 := fun V u v hu hv => hid (k_SameM V u v (exR (cwR us s B)) (exR (cwR us s B)) hu hv)
  have PM2 := fun V u v hu hv => hid (k_SameM V u v (lawR (cwR us s B) n) (lawR (cwR us s B) n) hu hv)
  rw [decide_eq_true rfl] at PS PI PM1 PM2
  obtain ⟨a, c, rfl, c1, c2, -⟩ := hv.openZ
  obtain ⟨N, hN⟩ : ∃ N, us.length = N := ⟨_, rfl⟩
  rw [hN] at h1 HV c1 PO P4 P6 P8 P10 PI ⊢
  have k1 : decide ((70 : Int) < (N : Int)) = false := by simp; omega
  have k2 : decide ((40 : Int) < (s.size : Int)) = false := by simp; omega
  have k3 : decide ((300 : Int) < (b.size : Int)) = false := by simp; omega
  obtain ⟨b4, k4⟩ : ∃ b, decide (60 < B) = b := ⟨_, rfl⟩
  obtain ⟨b5, k5⟩ : ∃ b, decide (B ≤ 400) = b := ⟨_, rfl⟩
  have k6 : (b4 && b5) = false := by
    rw [← k4, ← k5, Bool.and_eq_false_iff, decide_eq_false_iff_not, decide_eq_false_iff_not]
    omega
  generalize mbB s = mb at *
  generalize bPE s = be at *
  generalize cwE us s B = e1 at *
  generalize cwR us s B = wl at *
  generalize cdE us s B b = e2 at *
  generalize dr3 wl b = f2 at *
  generalize exR wl = m1 at *
  generalize clE us s B n = e3 at *
  generalize lawR wl n = m2 at *
  generalize ltcB many n = s3 at *
  generalize ltcE many n = e4 at *
  obtain ⟨p1, p2, p3⟩ := f2
  simp only [dw3] at P5 P6
  clear hL hv hN z1 z2 h2 h3 h4
  have C4 : (b4 = false) ∨ (b4 = true ∧ b5 = false) := by cases b4 <;> cases b5 <;> simp at k6 ⊢
  clear k6
  rcases C4 with rfl | ⟨rfl, rfl⟩
  · clear k5
    go_enter Tryz.func7, Tryz.ntmps7
    go_wp2_with fail
    refine HLV.out.mono ?_; rintro e w1 ⟨rfl, hb1⟩
    have y1 := hid hb1; clear hb1
    go_wp2_with fail
    refine (PO _ (HV.out.call y1.out)).out.mono ?_; rintro e w3 ⟨⟨u3, rfl, hu3⟩, hb3⟩
    have y3 := hid (bnext y1.out hb3); have U3 := hid hu3
    obtain ⟨ao, co, rfl, -, -, -⟩ := hu3.openZ
    clear hb3 hu3
    obtain ⟨NN, hNN⟩ : ∃ x, us.length = x := ⟨_, rfl⟩
    rw [hNN] at U3 ⊢
    clear hNN
    go_wp2_with fail
    refine (P1 _ (HL.out.call y3.out)).out.mono ?_; rintro e w4 ⟨rfl, hb4⟩
    have y4 := hid (bnext y3.out hb4); have U4 := hid (U3.out.call hb4); clear hb4 U3
    go_wp2_with fail
    refine (P2 _).out.mono ?_; rintro e w5 ⟨rfl, hb5⟩
    have y5 := hid (bnext y4.out hb5); have U5 := hid (U4.out.call hb5); clear hb5 U4
    go_wp2_with fail
    refine (P3 _ _ U5.out (HL.out.call y5.out)).out.mono ?_; rintro e w6 ⟨⟨u6, rfl, hu6⟩, hb6⟩
    have y6 := hid (bnext y5.out hb6); have U6 := hid (U5.out.call hb6); have S6 := hid hu6
    obtain ⟨a6, c6, rfl, -⟩ := hu6.openS
    clear hb6 hu6 U5
    obtain ⟨WL, hWL⟩ : ∃ x, wl.length = x := ⟨_, rfl⟩
    have HWL := hid hWL
    rw [hWL] at S6 ⊢
    clear hWL
    go_wp2_with fail
    refine (P4 _ (HV.out.call y6.out)).out.mono ?_; rintro e w7 ⟨⟨u7, rfl, hu7⟩, hb7⟩
    have y7 := hid (bnext y6.out hb7); have U7 := hid (U6.out.call hb7); have S7 := hid (S6.out.call hb7); have T7 := hid hu7
    obtain ⟨a7, c7, rfl, -⟩ := hu7.openS
    clear hb7 hu7 U6 S6
    rw [HWL.out] at T7 ⊢
    go_wp2_with fail
    refine (P5 _ _ U7.out (HL.out.call y7.out)).out.mono ?_; rintro e w8 ⟨rfl, hb8⟩
    have y8 := hid (bnext y7.out hb8); have U8 := hid (U7.out.call hb8); have S8 := hid (S7.out.call hb8); have T8 := hid (T7.out.call hb8); clear hb8 U7 S7 T7
    have xa := hid (Blk.new w8 #[.bool p1, .int .i64 (p2 : Nat), .int .i64 (p3 : Nat)] 48)
    have A8 := hid ((Below.refl w8.heap.size w8).alloc (Nat.le_refl _) (.cells #[.bool p1, .int .i64 (p2 : Nat), .int .i64 (p3 : Nat)] 48))
    have z8 := hid (bnext y8.out A8.out)
    go_wp2_with fail
    refine (P6 _ (HV.out.call z8.out)).out.mono ?_; rintro e w9 ⟨rfl, hb9⟩
    have y9 := hid (bnext z8.out hb9); have U9 := hid ((U8.out.call A8.out).call hb9); have S9 := hid ((S8.out.call A8.out).call hb9); have T9 := hid ((T8.out.call A8.out).call hb9); have xa9 := hid (xa.out.call hb9); clear hb9 U8 S8 T8
    have xb := hid (Blk.new w9 #[.bool p1, .int .i64 (p2 : Nat), .int .i64 (p3 : Nat)] 48)
    have A9 := hid ((Below.refl w9.heap.size w9).alloc (Nat.le_refl _) (.cells #[.bool p1, .int .i64 (p2 : Nat), .int .i64 (p3 : Nat)] 48))
    have z9 := hid (bnext y9.out A9.out)
    have la : w8.heap.size < w9.heap.size := xa9.out.lt
    go_wp2_with fail
    refine (PS _ _ _ (S9.out.call A9.out) (T9.out.call A9.out)).out.mono ?_; rintro e w10 ⟨rfl, hb10⟩
    have y10 := hid (bnext z9.out hb10); have U10 := hid ((U9.out.call A9.out).call hb10); have xa10 := hid ((xa9.out.call A9.out).call hb10); have xb10 := hid (xb.out.call hb10); clear hb10 U9 S9 T9
    have r0 := xa10.out.cell 0
    have r1 := xa10.out.cell 1
    have r2 := xa10.out.cell 2
    have r3 := xb10.out.cell 0
    have r4 := xb10.out.cell 1
    have r5 := xb10.out.cell 2
    simp at r0 r1 r2 r3 r4 r5
    go_wp2_with fail
    refine (P7 _ _ U10.out (HL.out.call y10.out)).out.mono ?_; rintro e w11 ⟨⟨u11, rfl, hu11⟩, hb11⟩
    have y11 := hid (bnext y10.out hb11); have U11 := hid (U10.out.call hb11); have M11 := hid hu11; clear hb11 U10 r0 r1 r2 r3 r4 r5
    obtain ⟨aa, ca, rfl⟩ := hu11.openM
    clear hu11
    go_wp2_with fail
    refine (P8 _ (HV.out.call y11.out)).out.mono ?_; rintro e w12 ⟨⟨u12, rfl, hu12⟩, hb12⟩
    have y12 := hid (bnext y11.out hb12); have U12 := hid (U11.out.call hb12); have M12 := hid (M11.out.call hb12); have N12 := hid hu12; clear hb12 U11 M11
    obtain ⟨ab, cb, rfl⟩ := hu12.openM
    clear hu12
    go_wp2_with fail
    refine (P9 _ _ U12.out (HL.out.call y12.out)).out.mono ?_; rintro e w13 ⟨⟨u13, rfl, hu13⟩, hb13⟩
    have y13 := hid (bnext y12.out hb13); have U13 := hid (U12.out.call hb13); have M13 := hid (M12.out.call hb13); have N13 := hid (N12.out.call hb13); have O13 := hid hu13; clear hb13 U12 M12 N12
    obtain ⟨ac, cc, rfl⟩ := hu13.openM
    clear hu13
    go_wp2_with fail
    refine (P10 _ (HV.out.call y13.out)).out.mono ?_; rintro e w14 ⟨⟨u14, rfl, hu14⟩, hb14⟩
    have y14 := hid (bnext y13.out hb14); have U14 := hid (U13.out.call hb14); have M14 := hid (M13.out.call hb14); have N14 := hid (N13.out.call hb14); have O14 := hid (O13.out.call hb14); have R14 := hid hu14; clear hb14 U13 M13 N13 O13
    obtain ⟨ad, cd, rfl⟩ := hu14.openM
    clear hu14
    go_wp2_with fail
    refine (P11 _ (HL.out.call y14.out)).out.mono ?_; rintro e w15 ⟨rfl, hb15⟩
    have y15 := hid (bnext y14.out hb15); have U15 := hid (U14.out.call hb15); have M15 := hid (M14.out.call hb15); have N15 := hid (N14.out.call hb15); have O15 := hid (O14.out.call hb15); have R15 := hid (R14.out.call hb15); clear hb15 U14 M14 N14 O14 R14
    go_wp2_with fail
    refine (P12 _).out.mono ?_; rintro e w16 ⟨rfl, hb16⟩
    have y16 := hid (bnext y15.out hb16); have U16 := hid (U15.out.call hb16); have M16 := hid (M15.out.call hb16); have N16 := hid (N15.out.call hb16); have O16 := hid (O15.out.call hb16); have R16 := hid (R15.out.call hb16); clear hb16 U15 M15 N15 O15 R15
    go_wp2_with fail
    refine (PM1 _ _ _ M16.out N16.out).out.mono ?_; rintro e w17 ⟨rfl, hb17⟩
    have y17 := hid (bnext y16.out hb17); have U17 := hid (U16.out.call hb17); have O17 := hid (O16.out.call hb17); have R17 := hid (R16.out.call hb17); clear hb17
    go_wp2_with fail
    refine (PM2 _ _ _ O17.out R17.out).out.mono ?_; rintro e w18 ⟨rfl, hb18⟩
    have y18 := hid (bnext y17.out hb18); have U18 := hid (U17.out.call hb18); clear hb18
    go_wp2_with fail
    refine (PI _ _ U18.out (HV.out.call y18.out)).out.mono ?_; rintro e w19 ⟨rfl, hb19⟩
    have y19 := hid (bnext y18.out hb19); clear hb19
    go_wp2_with fail
    go_ret
    exact ⟨rfl, y19.out⟩
  · go_enter Tryz.func7, Tryz.ntmps7
    go_wp2_with fail
    refine HLV.out.mono ?_; rintro e w1 ⟨rfl, hb1⟩
    have y1 := hid hb1; clear hb1
    go_wp2_with fail
    refine (PO _ (HV.out.call y1.out)).out.mono ?_; rintro e w3 ⟨⟨u3, rfl, hu3⟩, hb3⟩
    have y3 := hid (bnext y1.out hb3); have U3 := hid hu3
    obtain ⟨ao, co, rfl, -, -, -⟩ := hu3.openZ
    clear hb3 hu3
    obtain ⟨NN, hNN⟩ : ∃ x, us.length = x := ⟨_, rfl⟩
    rw [hNN] at U3 ⊢
    clear hNN
    go_wp2_with fail
    refine (P1 _ (HL.out.call y3.out)).out.mono ?_; rintro e w4 ⟨rfl, hb4⟩
    have y4 := hid (bnext y3.out hb4); have U4 := hid (U3.out.call hb4); clear hb4 U3
    go_wp2_with fail
    refine (P2 _).out.mono ?_; rintro e w5 ⟨rfl, hb5⟩
    have y5 := hid (bnext y4.out hb5); have U5 := hid (U4.out.call hb5); clear hb5 U4
    go_wp2_with fail
    refine (P3 _ _ U5.out (HL.out.call y5.out)).out.mono ?_; rintro e w6 ⟨⟨u6, rfl, hu6⟩, hb6⟩
    have y6 := hid (bnext y5.out hb6); have U6 := hid (U5.out.call hb6); have S6 := hid hu6
    obtain ⟨a6, c6, rfl, -⟩ := hu6.openS
    clear hb6 hu6 U5
    obtain ⟨WL, hWL⟩ : ∃ x, wl.length = x := ⟨_, rfl⟩
    have HWL := hid hWL
    rw [hWL] at S6 ⊢
    clear hWL
    go_wp2_with fail
    refine (P4 _ (HV.out.call y6.out)).out.mono ?_; rintro e w7 ⟨⟨u7, rfl, hu7⟩, hb7⟩
    have y7 := hid (bnext y6.out hb7); have U7 := hid (U6.out.call hb7); have S7 := hid (S6.out.call hb7); have T7 := hid hu7
    obtain ⟨a7, c7, rfl, -⟩ := hu7.openS
    clear hb7 hu7 U6 S6
    rw [HWL.out] at T7 ⊢
    go_wp2_with fail
    refine (P5 _ _ U7.out (HL.out.call y7.out)).out.mono ?_; rintro e w8 ⟨rfl, hb8⟩
    have y8 := hid (bnext y7.out hb8); have U8 := hid (U7.out.call hb8); have S8 := hid (S7.out.call hb8); have T8 := hid (T7.out.call hb8); clear hb8 U7 S7 T7
    have xa := hid (Blk.new w8 #[.bool p1, .int .i64 (p2 : Nat), .int .i64 (p3 : Nat)] 48)
    have A8 := hid ((Below.refl w8.heap.size w8).alloc (Nat.le_refl _) (.cells #[.bool p1, .int .i64 (p2 : Nat), .int .i64 (p3 : Nat)] 48))
    have z8 := hid (bnext y8.out A8.out)
    go_wp2_with fail
    refine (P6 _ (HV.out.call z8.out)).out.mono ?_; rintro e w9 ⟨rfl, hb9⟩
    have y9 := hid (bnext z8.out hb9); have U9 := hid ((U8.out.call A8.out).call hb9); have S9 := hid ((S8.out.call A8.out).call hb9); have T9 := hid ((T8.out.call A8.out).call hb9); have xa9 := hid (xa.out.call hb9); clear hb9 U8 S8 T8
    have xb := hid (Blk.new w9 #[.bool p1, .int .i64 (p2 : Nat), .int .i64 (p3 : Nat)] 48)
    have A9 := hid ((Below.refl w9.heap.size w9).alloc (Nat.le_refl _) (.cells #[.bool p1, .int .i64 (p2 : Nat), .int .i64 (p3 : Nat)] 48))
    have z9 := hid (bnext y9.out A9.out)
    have la : w8.heap.size < w9.heap.size := xa9.out.lt
    go_wp2_with fail
    refine (PS _ _ _ (S9.out.call A9.out) (T9.out.call A9.out)).out.mono ?_; rintro e w10 ⟨rfl, hb10⟩
    have y10 := hid (bnext z9.out hb10); have U10 := hid ((U9.out.call A9.out).call hb10); have xa10 := hid ((xa9.out.call A9.out).call hb10); have xb10 := hid (xb.out.call hb10); clear hb10 U9 S9 T9
    have r0 := xa10.out.cell 0
    have r1 := xa10.out.cell 1
    have r2 := xa10.out.cell 2
    have r3 := xb10.out.cell 0
    have r4 := xb10.out.cell 1
    have r5 := xb10.out.cell 2
    simp at r0 r1 r2 r3 r4 r5
    go_wp2_with fail
    refine (P7 _ _ U10.out (HL.out.call y10.out)).out.mono ?_; rintro e w11 ⟨⟨u11, rfl, hu11⟩, hb11⟩
    have y11 := hid (bnext y10.out hb11); have U11 := hid (U10.out.call hb11); have M11 := hid hu11; clear hb11 U10 r0 r1 r2 r3 r4 r5
    obtain ⟨aa, ca, rfl⟩ := hu11.openM
    clear hu11
    go_wp2_with fail
    refine (P8 _ (HV.out.call y11.out)).out.mono ?_; rintro e w12 ⟨⟨u12, rfl, hu12⟩, hb12⟩
    have y12 := hid (bnext y11.out hb12); have U12 := hid (U11.out.call hb12); have M12 := hid (M11.out.call hb12); have N12 := hid hu12; clear hb12 U11 M11
    obtain ⟨ab, cb, rfl⟩ := hu12.openM
    clear hu12
    go_wp2_with fail
    refine (P9 _ _ U12.out (HL.out.call y12.out)).out.mono ?_; rintro e w13 ⟨⟨u13, rfl, hu13⟩, hb13⟩
    have y13 := hid (bnext y12.out hb13); have U13 := hid (U12.out.call hb13); have M13 := hid (M12.out.call hb13); have N13 := hid (N12.out.call hb13); have O13 := hid hu13; clear hb13 U12 M12 N12
    obtain ⟨ac, cc, rfl⟩ := hu13.openM
    clear hu13
    go_wp2_with fail
    refine (P10 _ (HV.out.call y13.out)).out.mono ?_; rintro e w14 ⟨⟨u14, rfl, hu14⟩, hb14⟩
    have y14 := hid (bnext y13.out hb14); have U14 := hid (U13.out.call hb14); have M14 := hid (M13.out.call hb14); have N14 := hid (N13.out.call hb14); have O14 := hid (O13.out.call hb14); have R14 := hid hu14; clear hb14 U13 M13 N13 O13
    obtain ⟨ad, cd, rfl⟩ := hu14.openM
    clear hu14
    go_wp2_with fail
    refine (P11 _ (HL.out.call y14.out)).out.mono ?_; rintro e w15 ⟨rfl, hb15⟩
    have y15 := hid (bnext y14.out hb15); have U15 := hid (U14.out.call hb15); have M15 := hid (M14.out.call hb15); have N15 := hid (N14.out.call hb15); have O15 := hid (O14.out.call hb15); have R15 := hid (R14.out.call hb15); clear hb15 U14 M14 N14 O14 R14
    go_wp2_with fail
    refine (P12 _).out.mono ?_; rintro e w16 ⟨rfl, hb16⟩
    have y16 := hid (bnext y15.out hb16); have U16 := hid (U15.out.call hb16); have M16 := hid (M15.out.call hb16); have N16 := hid (N15.out.call hb16); have O16 := hid (O15.out.call hb16); have R16 := hid (R15.out.call hb16); clear hb16 U15 M15 N15 O15 R15
    go_wp2_with fail
    refine (PM1 _ _ _ M16.out N16.out).out.mono ?_; rintro e w17 ⟨rfl, hb17⟩
    have y17 := hid (bnext y16.out hb17); have U17 := hid (U16.out.call hb17); have O17 := hid (O16.out.call hb17); have R17 := hid (R16.out.call hb17); clear hb17
    go_wp2_with fail
    refine (PM2 _ _ _ O17.out R17.out).out.mono ?_; rintro e w18 ⟨rfl, hb18⟩
    have y18 := hid (bnext y17.out hb18); have U18 := hid (U17.out.call hb18); clear hb18
    go_wp2_with fail
    refine (PI _ _ U18.out (HV.out.call y18.out)).out.mono ?_; rintro e w19 ⟨rfl, hb19⟩
    have y19 := hid (bnext y18.out hb19); clear hb19
    go_wp2_with fail
    go_ret
    exact ⟨rfl, y19.out⟩
theorem w_ChooseCalls (w : World) (v : Value) (us : List Int) (s b : ByteArray) (B many n : Int) (hv : Row w v (zs us)) (hL : Lay w) :
    Calls Tryz.prog 7 #[v, .string s, .int .i64 B, .int .i64 many, .string b, .int .i64 n] w fun e w' => e = .returned (.bool true) ∧ Below w.heap.size w w' := by
  by_cases h : 70 < us.length ∨ 40 < s.size ∨ 300 < b.size ∨ (60 < B ∧ B ≤ 400)
  · exact cc_over w v us s b B many n hv hL h
  · exact cc_main w v us s b B many n hv hL (by omega) (by omega) (by omega) (by omega)
end Go.Proofs.YtpehhgkghgbhiaaGreatDoor
namespace Go.Proofs.YtpehhgkghgbhiaaGreatDoor
open Go.ChangeShapes Go.WideShapes Go.ChangeAt Go.RowKit
open Go.ChangeMaps (open_string shut_string)
set_option linter.unusedVariables false
theorem open_nums {H : Type} {enc : TypeId × Value → H} {P : Program} {r : Reach} {b0 : Nat} {w : World} {t e : TypeId} {v : Value} {d : DataW H} {p : List MemPlace} (ht : P.underlying t = some (.slice e)) (he : P.underlying e = some (.int .i64)) (hc : P.cellsOf e = 1)
    (hv : Value.okWide P w r b0 t v) (h : DataW.Trod enc P w 0 (fun _ => true) true t v d p) : ∃ l, Row w v (zs l) ∧ ∀ x ∈ l, -9223372036854775808 ≤ x ∧ x ≤ 9223372036854775807 := by
  obtain ⟨a0, len, cap, rfl⟩ := okWide_slice ht hv
  obtain ⟨fuel, hf⟩ := h
  rcases open_ints ht he hc hf with ⟨hcs, -⟩ | ⟨a, len', cap', ss, hcs, -, hl, hm, hz, -, hcell, hws⟩
  · simp [Value.cells] at hcs
    obtain ⟨rfl, rfl, rfl⟩ := hcs
    exact ⟨[], Row.nil w, by simp⟩
  · simp [Value.cells] at hcs
    obtain ⟨rfl, rfl, rfl⟩ := hcs
    simp at hz
    refine ⟨ss.take len, ⟨some a, cap, ?_, ?_, hm, fun i x hx => ?_⟩, fun x hx => (Lit.wf_int_iff .i64 x).1 (hws x (List.mem_of_mem_take hx))⟩
    · rw [zs_length, List.length_take_of_le (by omega)]
    · rw [zs_length, List.length_take_of_le (by omega)]; exact hl
    · have hi := (List.getElem?_eq_some_iff.1 hx).1
      rw [zs_length, List.length_take_of_le (by omega)] at hi
      obtain ⟨b, off, spot⟩ := a
      have hspot : spot = none := by
        have h0 := hcell 0 (by omega)
        simpa [Addr.add] using World.cell?_spot h0
      subst hspot
      have hc2 := hcell i (by omega)
      rw [Go.WideShapes.add_plain] at hc2
      refine ⟨b, off, rfl, World.block_lt_of_cell? w _ hc2, ?_⟩
      rw [hc2, ← hx]
      simp only [zs, List.getElem?_map, List.getElem?_take]
      rw [if_pos (by omega), List.getD_eq_getElem?_getD]
      obtain ⟨y, hy⟩ : ∃ y, ss[i]? = some y := ⟨_, List.getElem?_eq_getElem (by omega)⟩
      rw [hy]
      rfl
end Go.Proofs.YtpehhgkghgbhiaaGreatDoor
