/- PickCounts: the row and the tied card: for every input the law answers true; conditions: none beyond the row's own. -/
import Derived.Test.YtjgcjjbnnlnilaaGreatDoorKb1
import Derived.WalkLawsBesides
import Derived.Deep.DeepCutAuto
import Derived.Sort.Walk0
namespace Go.Proofs.YtjgcjjbnnlnilaaGreatDoor
open Go.RowKit Go.Shelf
open Go.Lib (decDigits nDigits)
set_option linter.unusedVariables false
set_option linter.unusedSimpArgs false

theorem info_bits : (Tryz.prog.info? 24).map (fun i => (i.zero, i.size, i.bytes)) = some (some (.string ⟨#[]⟩), 1, 16) := by kernel_rfl

/-- A word as a text. -/
def tb (l : List UInt8) : ByteArray := ⟨l.toArray⟩
theorem tb_size (l : List UInt8) : (tb l).size = l.length := by simp [tb, ByteArray.size]
theorem tb_snoc (l : List UInt8) (b : UInt8) : tb l ++ (⟨#[b]⟩ : ByteArray) = tb (l ++ [b]) := by
  apply ba_ext
  simp [tb]
/-- The words behind some words. -/
def nextW (L : List (List UInt8)) : List (List UInt8) := L.flatMap fun l => [l ++ [48], l ++ [49]]
theorem nextW_len (L : List (List UInt8)) : (nextW L).length = 2 * L.length := by
  unfold nextW
  induction L with
  | nil => rfl
  | cons a r ih => rw [List.flatMap_cons, List.length_append, ih, List.length_cons]; simp; omega
theorem nextW_snoc (L : List (List UInt8)) (l : List UInt8) : nextW (L ++ [l]) = nextW L ++ [l ++ [48], l ++ [49]] := by simp [nextW]

set_option maxRecDepth 100000 in
set_option maxHeartbeats 4000000 in
theorem r3_All (w : World) (n : Nat) (hn : n ≤ 12) :
    Calls Tryz.prog 18 #[.int .i64 (n : Nat)] w fun e w' => (∃ v, e = .returned (.tuple #[v, .int .i64 0]) ∧ Row w' v (strs ((allW n).map tb))) ∧ Below w.heap.size w w' := by
  obtain ⟨i0, hi, hz0, hz1, hz2⟩ := info_parts info_bits
  have t1 : decide ((n : Int) < 0) = false := by simp
  have t2 : decide ((12 : Int) < (n : Int)) = false := by simp; omega
  have R0 : Row (w.alloc (.cells #[.string ⟨#[]⟩] 24)) (.slice (some ⟨w.heap.size, 0, none⟩) 1 1) (strs ((allW 0).map tb)) :=
    Row.of_blk (n := 1) (Blk.new w _ _) rfl (by decide) (fun i x h => by
      rcases i with _ | i
      · simp [allW, strs, tb] at h ⊢; exact h
      · simp [allW, strs, tb] at h) (Nat.le_refl 1) (by decide)
  have HR0 := hid R0
  have B0 := hid ((Below.refl w.heap.size w).alloc (Nat.le_refl _) (.cells #[.string ⟨#[]⟩] 24))
  clear R0
  go_enter Tryz.func18, Tryz.ntmps18
  go_wp2_with fail
  go_loopw [0, 4] (fun s0 s4 wr => ∃ j : Nat, j ≤ n ∧ s0 = .int .i64 ((n - j : Nat) : Int) ∧ Hid (Row wr s4 (strs ((allW j).map tb))) ∧ Hid (Below w.heap.size w wr)) (fun s0 s4 wr => (intOf s0).toNat)
  case atStart => exact ⟨0, Nat.zero_le _, rfl, HR0, B0⟩
  case round =>
    obtain ⟨j, hj, rfl, hR, hB⟩ := hrel
    by_cases hlt : j < n
    · have q1 : decide (0 < n - j) = true := by simp; omega
      have hp : 2 ^ j ≤ 4096 := Nat.le_trans (Nat.pow_le_pow_right (by omega) (show j ≤ 12 by omega)) (by decide)
      have hlen : ((allW j).map tb).length = 2 ^ j := by rw [List.length_map, allW_length]
      obtain ⟨m, hm⟩ : ∃ m, 2 ^ j = m := ⟨_, rfl⟩
      rw [hm] at hp hlen
      obtain ⟨a, c, rfl, c1, c2, -⟩ := hR.out.openS
      rw [hlen] at hR c1 ⊢
      have HLN := hid hlen
      have q2 : (0 : Int) < ((n - j : Nat) : Int) := by omega
      have wn : IntKind.i64.wrap (((n - j : Nat) : Int) - 1) = ((n - (j + 1) : Nat) : Int) := by rw [IntWalk.i64_in _ ⟨by omega, by omega⟩]; omega
      have HWN := hid wn
      obtain ⟨wo, hwo⟩ : ∃ wo : World, wo = wr := ⟨_, rfl⟩
      subst hwo
      have HBO := hid hB.out.size
      clear hlen hm wn
      go_wp2_with fail
      clear q1
      go_loopw [5, 6] (fun s5 s6 wr => ∃ i : Nat, i ≤ m ∧ s6 = .int .i64 (i : Nat) ∧ Hid (wr.ownsRow wo.heap.size 24 1 s5 (2 * i) (strs ((nextW ((allW j).take i)).map tb))) ∧ Hid (Below wo.heap.size wo wr)) (fun s5 s6 wr => m - (intOf s6).toNat)
      case atStart => exact ⟨0, Nat.zero_le _, rfl, ⟨rfl, .inl ⟨rfl, rfl⟩⟩, Below.refl _ _⟩
      case round =>
        obtain ⟨i, hi2, rfl, hO, hB2⟩ := hrel
        by_cases hlt2 : i < m
        · obtain ⟨l, hl⟩ : ∃ l, (allW j)[i]? = some l := ⟨_, List.getElem?_eq_getElem (by have := HLN.out; rw [List.length_map] at this; omega)⟩
          have hll := allW_len (List.mem_of_getElem? hl)
          obtain ⟨g, o, rfl, hg, hc⟩ := hR.out.at (strs_get (show ((allW j).map tb)[i]? = some (tb l) by rw [List.getElem?_map, hl]; rfl))
          have hc2 := (hB2.out.cell (p := ⟨g, o + i, none⟩) hg).trans hc
          have hsz : ¬ 9223372036854775807 < (tb l).size + 1 := by rw [tb_size]; omega
          have HX : Hid ((allW j).take (i + 1) = (allW j).take i ++ [l]) := by show (allW j).take (i + 1) = _; rw [List.take_add_one, hl]; rfl
          have b1 : (0 : Int) ≤ (i : Int) := by omega
          have b2 : (i : Int) < (m : Int) := by omega
          have wi : IntKind.i64.wrap ((i : Int) + 1) = ((i + 1 : Nat) : Int) := by rw [IntWalk.i64_in _ ⟨by omega, by omega⟩]; omega
          have e1 := hid (tb_snoc l 48)
          have e2 := hid (tb_snoc l 49)
          have KK : Hid (∀ w', Below wr.heap.size wr w' → w'.cell? ⟨g, o + i, none⟩ = some (.string (tb l))) := fun w' hb => (hb.cell (p := ⟨g, o + i, none⟩) (Nat.lt_of_lt_of_le hg hB2.out.size)).trans hc2
          obtain ⟨X, hX⟩ : ∃ X, tb l = X := ⟨_, rfl⟩
          rw [hX] at hc2 hsz e1 e2 KK
          clear hl hll hc hX
          go_wp2_with fail
          refine held_plain [0, 1, 2, 3, 4, 5, 6, 7, 8, 9, 10] 3 (fun w' => w'.cell? ⟨g, o + i, none⟩ = some (.string X)) (by kernel_rfl) (by kernel_rfl) (by kernel_rfl) (by kernel_rfl) (KK.out _ (Below.refl _ _).drew) ?_
          iterate 11
            refine ⟨_, rfl, ?_⟩
            apply Exists.intro
            refine ⟨.inl ⟨by rfl, ?_⟩, ?_⟩
            · (intro W' hW'; obtain q1 := hW'; go_simp; try (with_reducible rfl))
            (dsimp only [Act.put]; try simp only [List.setIfInBounds_toArray, List.set_cons_zero, List.set_cons_succ])
          refine held_one (i := 11) (by kernel_rfl) (by rfl) (by rfl) ?_
          go_wp2_with fail
          refine ⟨KK.out _ ((Below.refl _ _).drew.alloc (Nat.le_refl _) _), ?_⟩
          refine held_one (i := 12) (by kernel_rfl) (by rfl) (by rfl) ?_
          have cells : ∀ j u, [Value.string (X ++ ⟨#[48]⟩), .string (X ++ ⟨#[49]⟩)][j]? = some u → (wr.alloc (.cells #[.string (X ++ ⟨#[48]⟩), .string (X ++ ⟨#[49]⟩)] 24)).drew.cell? ((⟨wr.heap.size, 0, none⟩ : Addr).add j) = some u := cell_two_new wr _ _ 24
          refine wpList_append_own _ rfl _ _ 46 rfl wo.heap.size 24 i0 (.string ⟨#[]⟩) 1 16 Tryz.underlying46 hi hz0 hz1 hz2 rfl (by decide) _ (2 * i) _ rfl (hO.out.alloc _) ⟨wr.heap.size, 0, none⟩ 2 2 [.string (X ++ ⟨#[48]⟩), .string (X ++ ⟨#[49]⟩)] rfl rfl cells (by simp [Value.oneCell']) (by unfold maxLen; omega) (by omega) (by have := hB2.out.size; simp; omega) ?_
          intro v' w3 hown3 hgrow3 _
          have hO3 := hid (show w3.ownsRow wo.heap.size 24 1 v' (2 * (i + 1)) (strs ((nextW ((allW j).take (i + 1))).map tb)) by
            rw [HX.out, nextW_snoc, List.map_append, strs_append]
            have h2 : strs ([l ++ [48], l ++ [49]].map tb) = [.string (X ++ ⟨#[48]⟩), .string (X ++ ⟨#[49]⟩)] := by
              rw [e1.out, e2.out]; rfl
            rw [h2]
            exact hown3)
          have hB3 : Hid (Below wo.heap.size wo w3) := by
            refine ((hB2.out.alloc hB2.out.size _).drew).trans ⟨hgrow3.os, hgrow3.tape, hgrow3.output, hgrow3.size, fun k hk => hgrow3.block k (by have := hB2.out.size; simp; omega) (fun e => ?_)⟩
            have := (hO.out.lt k e.symm).1
            omega
          have m0 : w3.cell? ⟨g, o + i, none⟩ = some (.string X) := (hB3.out.cell (p := ⟨g, o + i, none⟩) hg).trans ((hB2.out.cell (p := ⟨g, o + i, none⟩) hg).symm.trans hc2)
          clear hown3 hgrow3 cells
          go_wp2_with fail
          refine ⟨m0, ?_⟩
          refine held_more (is := [13]) (g := 0) (by kernel_rfl) rfl m0 (by kernel_rfl) ?_
          iterate 1
            refine ⟨_, rfl, ?_⟩
            apply Exists.intro
            refine ⟨.inl ⟨by rfl, ?_⟩, ?_⟩
            · (intro W' hW'; obtain q1 := hW'; go_simp; try (with_reducible rfl))
            (dsimp only [Act.put]; try simp only [List.setIfInBounds_toArray, List.set_cons_zero, List.set_cons_succ])
          refine wpAnyH_done (by kernel_rfl) ?_ _
          simp only [Only]
          go_wp2_with fail
          go_roundw
          case rel => exact ⟨i + 1, by omega, by go_num, hO3, hB3⟩
          case measure => simp [intOf] <;> omega
        · obtain rfl : i = m := by omega
          have q1 : decide ((i : Int) < (i : Int)) = false := by simp
          have h := hO.out
          rw [List.take_of_length_le (by have := HLN.out; rw [List.length_map] at this; omega)] at h
          have hrow := hid (show Row _ _ (strs ((allW (j + 1)).map tb)) from Row.of_owns h)
          have hB3 := hid (hB.out.trans (hB2.out.mono HBO.out))
          have wn := HWN.out
          clear hlt2 h
          go_wp2_with fail
          go_roundw
          case rel => exact ⟨j + 1, by omega, rfl, hrow, hB3⟩
          case measure => simp [intOf] <;> omega
    · obtain rfl : j = n := by omega
      have q1 : decide (((j - j : Nat) : Int) > 0) = false := by simp
      have q2 : ((j - j : Nat) : Int) = 0 := by simp
      obtain ⟨a, c, rfl, -⟩ := hR.out.openS
      clear hlt
      go_wp2_with fail
      go_ret2
      exact ⟨⟨_, rfl, hR.out⟩, hB.out⟩
end Go.Proofs.YtjgcjjbnnlnilaaGreatDoor

/- Plain: what the law PickCounts counts. -/
namespace Go.Proofs.YtjgcjjbnnlnilaaGreatDoor
open Go.RowKit Go.Maps
open Go.Lib (decDigits nDigits)
set_option linter.unusedVariables false

/-- How often each index was drawn. -/
def cntL (f : Nat → Nat → Nat × Bool) (N : Nat) (W : List (List UInt8)) : List Nat := (List.range N).map fun i => W.countP (drawsI f i)
theorem cntL_len (f : Nat → Nat → Nat × Bool) (N : Nat) (W : List (List UInt8)) : (cntL f N W).length = N := by simp [cntL]
theorem cntL_nil (f : Nat → Nat → Nat × Bool) (N : Nat) : cntL f N [] = List.replicate N 0 := by
  unfold cntL
  apply List.ext_getElem?
  intro i
  by_cases h : i < N <;> simp [h]
theorem cntL_get {f : Nat → Nat → Nat × Bool} {N : Nat} {W : List (List UInt8)} {i : Nat} (h : i < N) : (cntL f N W)[i]? = some (W.countP (drawsI f i)) := by
  unfold cntL
  simp [h]
theorem cntL_done {f : Nat → Nat → Nat × Bool} {N : Nat} {W : List (List UInt8)} {l : List UInt8} {v u : Nat} (h : pdr f 0 1 l = (true, v, u)) (hv : v < N) : cntL f N (W ++ [l]) = (cntL f N W).set v (W.countP (drawsI f v) + 1) := by
  apply List.ext_getElem?
  intro i
  by_cases hi : i < N
  · rw [cntL_get hi, List.countP_append]
    by_cases e : i = v
    · subst e
      rw [List.getElem?_set_self (by rw [cntL_len]; exact hi)]
      simp [drawsI, h]
    · rw [List.getElem?_set_ne (fun h => e h.symm), cntL_get hi]
      have : drawsI f i l = false := by simp [drawsI, h]; exact fun h => e h.symm
      simp [this]
  · rw [List.getElem?_eq_none (by rw [cntL_len]; omega), List.getElem?_eq_none (by rw [List.length_set, cntL_len]; omega)]
theorem cntL_late {f : Nat → Nat → Nat × Bool} {N : Nat} {W : List (List UInt8)} {l : List UInt8} (h : (pdr f 0 1 l).1 = false) : cntL f N (W ++ [l]) = cntL f N W := by
  apply List.ext_getElem?
  intro i
  by_cases hi : i < N
  · rw [cntL_get hi, cntL_get hi, List.countP_append]
    have : drawsI f i l = false := by simp [drawsI, h]
    simp [this]
  · rw [List.getElem?_eq_none (by rw [cntL_len]; omega), List.getElem?_eq_none (by rw [cntL_len]; omega)]
/-- How many were late. -/
def noneL (f : Nat → Nat → Nat × Bool) (W : List (List UInt8)) : Nat := W.countP fun l => !(pdr f 0 1 l).1
theorem noneL_done {f : Nat → Nat → Nat × Bool} {W : List (List UInt8)} {l : List UInt8} (h : (pdr f 0 1 l).1 = true) : noneL f (W ++ [l]) = noneL f W := by
  unfold noneL; rw [List.countP_append]; simp [h]
theorem noneL_late {f : Nat → Nat → Nat × Bool} {W : List (List UInt8)} {l : List UInt8} (h : (pdr f 0 1 l).1 = false) : noneL f (W ++ [l]) = noneL f W + 1 := by
  unfold noneL; rw [List.countP_append]; simp [h]
theorem noneL_le (f : Nat → Nat → Nat × Bool) (W : List (List UInt8)) : noneL f W ≤ W.length := List.countP_le_length

theorem cntL_all {ws : List Nat} (hS : 0 < ws.sum) (n : Nat) {i : Nat} (hi : i < ws.length) : (cntL (pkF ws) ws.length (allW n))[i]? = some (cnt ws (2 ^ n) i) := by
  rw [cntL_get hi, pick_count hS n hi]
theorem noneL_all {ws : List Nat} (hS : 0 < ws.sum) (n : Nat) : noneL (pkF ws) (allW n) = 2 ^ n - lwS ws (2 ^ n) ws.length := pick_late hS n

theorem draw_fit {ws : List Nat} (hS : 0 < ws.sum) (l : List UInt8) : ((pdr (pkF ws) 0 1 l).1 = true → (pdr (pkF ws) 0 1 l).2.1 < ws.length) ∧ ((pdr (pkF ws) 0 1 l).1 = false → (pdr (pkF ws) 0 1 l).2.1 = 0) := by
  obtain ⟨h1, h2, h3⟩ := pdr_end (pkF_nest hS) l 0 1 (by omega)
  refine ⟨fun hd => ?_, h3⟩
  rw [h2 hd]
  have e : pkF ws (bvL l 0) (1 * 2 ^ l.length) = ((pkF ws (bvL l 0) (1 * 2 ^ l.length)).1, true) := by rw [← hd, h1]
  exact ((pkF_iff hS).1 e).1

theorem lawL_step (ws : List Nat) (t i : Nat) : (cnt ws t i = 0 → lawL ws t (i + 1) = lawL ws t i) ∧ (cnt ws t i ≠ 0 → lawL ws t (i + 1) = lawL ws t i ++ [(numB i, shB (cnt ws t i) t)]) := by
  unfold cnt
  constructor
  · intro h
    rw [lawL, if_neg (by omega)]
  · intro h
    rw [lawL, if_pos (by omega)]
    rfl
theorem lawP_has {ws : List Nat} {t N i : Nat} (hi : i < N) (h : cnt ws t i ≠ 0) : hasM (sortM (lawP ws t N)) (numB i, shB (cnt ws t i) t) = true := by
  rw [hasM_iff, sortM_mem]
  have : (numB i, shB (cnt ws t i) t) ∈ lawL ws t N := lawL_mem.2 ⟨i, hi, by unfold cnt at h; omega, rfl⟩
  unfold lawP
  split
  · exact this
  · exact List.mem_append_left _ this
theorem lawP_last {ws : List Nat} {t N : Nat} (h : t - lwS ws t N ≠ 0) : hasM (sortM (lawP ws t N)) (lateB, shB (t - lwS ws t N) t) = true ∧ (lawP ws t N).length = (lawL ws t N).length + 1 := by
  refine ⟨?_, ?_⟩
  · rw [hasM_iff, sortM_mem]
    exact lawP_late.1 h
  · rw [lawP, if_neg h]; simp

theorem sortM_strict {L : List (ByteArray × ByteArray)} (nd : (L.map keyL).Nodup) {i : Nat} {p q : ByteArray × ByteArray} (hp : (sortM L)[i]? = some p) (hq : (sortM L)[i + 1]? = some q) : ¬ keyL q ≤ keyL p := by
  intro hle
  have hs := sortM_sorted L
  obtain ⟨h1, rfl⟩ := List.getElem?_eq_some_iff.1 hp
  obtain ⟨h2, rfl⟩ := List.getElem?_eq_some_iff.1 hq
  have h3 := List.pairwise_iff_getElem.1 hs i (i + 1) h1 h2 (by omega)
  simp only [leB, decide_eq_true_eq] at h3
  have e := List.le_antisymm h3 hle
  have nd2 : ((sortM L).map keyL).Nodup := (((List.mergeSort_perm L _).map keyL).nodup_iff).2 nd
  have h4 := List.pairwise_iff_getElem.1 nd2 i (i + 1) (by simpa using h1) (by simpa using h2) (by omega)
  simp only [List.getElem_map] at h4
  exact h4 e
theorem lawP_strict {ws : List Nat} {t N i : Nat} {p q : ByteArray × ByteArray} (hp : (sortM (lawP ws t N))[i]? = some p) (hq : (sortM (lawP ws t N))[i + 1]? = some q) : ¬ keyL q ≤ keyL p :=
  sortM_strict (reads_lawM (H := Unit) ws t N).nd hp hq
end Go.Proofs.YtjgcjjbnnlnilaaGreatDoor

/- Walks: law05.PickCounts. -/
namespace Go.Proofs.YtjgcjjbnnlnilaaGreatDoor
open Go.RowKit Go.Shelf
open Go.Lib (decDigits nDigits)
set_option linter.unusedVariables false
set_option linter.unusedSimpArgs false

theorem make_ints (n : Nat) (hn : n ≤ 3000000) (W : World) : (Instr.makeSlice 49 (.int .i64 (n : Int)) (.int .i64 (n : Int))).run Tryz.prog W = .ok (.slice (some ⟨W.heap.size, 0, none⟩) n n) (W.alloc (.cells (madeCells #[.int .i64 0] n) 3)) :=
  run_make_row' (P := Tryz.prog) 49 3 (.int .i64 0) 8 Tryz.underlying49 (by kernel_rfl) rfl .i64 .i64 n (by omega) (by omega) W

theorem tb_list (l : List UInt8) : (tb l).data.toList = l := by simp [tb]
theorem bit_words {n : Nat} {l : List UInt8} (h : l ∈ allW n) (hn : n ≤ 256) : chkE (tb l) = 0 := by
  have h1 : bitB (tb l) = true := by
    unfold bitB
    rw [tb_list, List.all_eq_true]
    intro b hb
    rcases allW_bits h b hb with rfl | rfl <;> decide
  rw [chkE, if_pos h1, if_neg (by rw [tb_size, allW_len h]; omega)]

set_option maxRecDepth 100000 in
set_option maxHeartbeats 4000000 in
theorem pc_err (w : World) (v : Value) (l : List ByteArray) (n : Int) (hv : Row w v (strs l)) (hn1 : -9223372036854775808 ≤ n) (hn2 : n ≤ 9223372036854775807) (hL : Lay w)
    (h : longB l = true ∨ n < 0 ∨ 8 < n ∨ lawE l n ≠ 0) :
    Calls Tryz.prog 4 #[v, .int .i64 n] w fun e w' => e = .returned (.bool true) ∧ Below w.heap.size w w' := by
  have HLV := hid (w_lives w hL)
  have HLG := fun V hV => hid (p_long V v l hV)
  have HV := hid hv; have HL := hid hL
  obtain ⟨a, c, rfl, c1, c2, -⟩ := hv.openS
  obtain ⟨N, hN⟩ : ∃ N, l.length = N := ⟨_, rfl⟩
  have HN := hid hN
  rw [hN] at HLG HV c1 ⊢
  clear hL hv hN
  by_cases g0 : longB l = true
  · rw [g0] at HLG
    clear g0 h
    go_enter Tryz.func4, Tryz.ntmps4
    go_wp2_with fail
    refine HLV.out.mono ?_; rintro e w1 ⟨rfl, hb1⟩
    have y1 := hid hb1; clear hb1
    go_wp2_with fail
    refine (HLG _ (HV.out.call y1.out)).out.mono ?_; rintro e w2 ⟨rfl, rfl⟩
    go_wp2_with fail
    go_ret
    exact ⟨rfl, y1.out⟩
  have HG0 := hid g0
  rw [Bool.not_eq_true] at g0
  rw [g0] at HLG
  clear g0
  by_cases g1 : n < 0
  · have t1 : decide (n < 0) = true := by simpa using g1
    clear g1 h
    go_enter Tryz.func4, Tryz.ntmps4
    go_wp2_with fail
    refine HLV.out.mono ?_; rintro e w1 ⟨rfl, hb1⟩
    have y1 := hid hb1; clear hb1
    go_wp2_with fail
    refine (HLG _ (HV.out.call y1.out)).out.mono ?_; rintro e w2 ⟨rfl, rfl⟩
    go_wp2_with fail
    go_ret
    exact ⟨rfl, y1.out⟩
  have t1 : decide (n < 0) = false := by simpa using g1
  by_cases g2 : 8 < n
  · have t2 : decide (8 < n) = true := by simpa using g2
    clear g1 g2 h
    go_enter Tryz.func4, Tryz.ntmps4
    go_wp2_with fail
    refine HLV.out.mono ?_; rintro e w1 ⟨rfl, hb1⟩
    have y1 := hid hb1; clear hb1
    go_wp2_with fail
    refine (HLG _ (HV.out.call y1.out)).out.mono ?_; rintro e w2 ⟨rfl, rfl⟩
    go_wp2_with fail
    go_ret
    exact ⟨rfl, y1.out⟩
  have t2 : decide (8 < n) = false := by simpa using g2
  have he : lawE l n ≠ 0 := by
    rcases h with h | h | h | h
    · exact absurd h HG0.out
    · exact absurd h g1
    · exact absurd h g2
    · exact h
  have hl1 := fun x hx => Nat.le_trans ((longB_no HG0.out).1 x hx) (by omega : 300 ≤ 1000000)
  have P1 := fun V v hV hLV => hid (p_Law V v l n hV hl1 hLV)
  have P2 := fun V v hV hLV => hid (p_Late V v l n hV hl1 hLV)
  have e1 : lawR l n = [] := by rw [lawR, if_neg he]
  have e2 : lateR l n = ⟨#[]⟩ := by rw [lateR, if_neg he]
  rw [e1] at P1
  rw [e2] at P2
  obtain ⟨z, hz⟩ : ∃ z, lawE l n = z := ⟨_, rfl⟩
  rw [hz] at P1 P2 he
  have q0 : (z != 0) = true := by simpa using he
  clear g1 g2 h hl1 e1 e2 hz he
  go_enter Tryz.func4, Tryz.ntmps4
  go_wp2_with fail
  refine HLV.out.mono ?_; rintro e w1 ⟨rfl, hb1⟩
  have y1 := hid hb1; clear hb1
  go_wp2_with fail
  refine (HLG _ (HV.out.call y1.out)).out.mono ?_; rintro e w2 ⟨rfl, rfl⟩
  go_wp2_with fail
  refine (P1 _ _ (HV.out.call y1.out) (HL.out.call y1.out)).out.mono ?_; rintro e w2 ⟨⟨u, rfl, hu⟩, hb2⟩
  have y2 := hid (bnext y1.out hb2)
  obtain ⟨a2, k2, rfl, -⟩ := hu.ex
  simp only [List.length_nil]
  clear hb2 hu
  go_wp2_with fail
  refine (P2 _ _ (HV.out.call y2.out) (HL.out.call y2.out)).out.mono ?_; rintro e w3 ⟨rfl, hb3⟩
  have y3 := hid (bnext y2.out hb3)
  clear hb3
  go_wp2_with fail
  go_ret
  exact ⟨rfl, y3.out⟩
end Go.Proofs.YtjgcjjbnnlnilaaGreatDoor

/- Walks: law05.PickCounts at good weights. -/
namespace Go.Proofs.YtjgcjjbnnlnilaaGreatDoor
open Go.RowKit Go.Shelf
open Go.Lib (decDigits nDigits)
set_option linter.unusedVariables false
set_option linter.unusedSimpArgs false

theorem made_ints (n : Nat) : madeCells #[.int .i64 0] n = (ints .i64 (List.replicate n 0)).toArray := made_zeros .i64 n

theorem less_lt {x z : ByteArray} (h : ¬ z.data.toList ≤ x.data.toList) : Op.bytesLess x.toList z.toList = true := by
  rw [bytesLess_eq, Lib.toList_data, Lib.toList_data]
  exact decide_eq_true (List.not_le.1 h)

set_option maxRecDepth 100000 in
set_option maxHeartbeats 8000000 in
theorem pc_ok (w : World) (v : Value) (l : List ByteArray) (m : Nat) (hv : Row w v (strs l)) (hg : ¬ longB l = true) (hm : m ≤ 8) (he : lawE l m = 0) (hL : Lay w) :
    Calls Tryz.prog 4 #[v, .int .i64 (m : Nat)] w fun e w' => e = .returned (.bool true) ∧ Below w.heap.size w w' := by
  have HLV := hid (w_lives w hL)
  have HLG := fun V hV => hid (p_long V v l hV)
  rw [Bool.not_eq_true] at hg
  rw [hg] at HLG
  have HV := hid hv; have HL := hid hL
  obtain ⟨hW, -, -⟩ := lawE_ok he
  obtain ⟨D1, D2, D3⟩ := wsE_ok hW
  have hS := wsE_pos hW
  have hl1 := fun x hx => Nat.le_trans ((longB_no (l := l) (by rw [hg]; simp)).1 x hx) (by omega : 300 ≤ 1000000)
  have P1 := fun V v hV hLV => hid (p_Law V v l m hV hl1 hLV)
  have P2 := fun V v hV hLV => hid (p_Late V v l m hV hl1 hLV)
  have er : lawR l (m : Nat) = sortM (lawP (l.map bN) (2 ^ m) l.length) := by rw [lawR, if_pos he, Int.toNat_natCast]
  have el : lateR l (m : Nat) = shB (2 ^ m - lwS (l.map bN) (2 ^ m) l.length) (2 ^ m) := by rw [lateR, if_pos he, Int.toNat_natCast]
  rw [er, he] at P1
  rw [el, he] at P2
  have P3 := fun (x : List UInt8) (hx : x ∈ allW m) V v hV hLV => hid (p_Draw V v l (tb x) hV hl1 (by rw [tb_size, allW_len hx]; omega) hLV)
  have ed : ∀ x ∈ allW m, drE l (tb x) = 0 ∧ dr3 l (tb x) = pdr (pkF (l.map bN)) 0 1 x := fun x hx => by
    have e1 : drE l (tb x) = 0 := by rw [drE, if_neg (by rw [hW]; simp)]; exact bit_words hx (by omega)
    exact ⟨e1, by rw [dr3, if_pos e1, tb_list]⟩
  have HED := hid ed
  obtain ⟨a, c, rfl, c1, c2, -⟩ := hv.openS
  obtain ⟨ws, hws⟩ : ∃ ws, l.map bN = ws := ⟨_, rfl⟩
  obtain ⟨N, hN⟩ : ∃ N, l.length = N := ⟨_, rfl⟩
  have hlen : ws.length = N := by rw [← hws, List.length_map]; exact hN
  have hN64 : N ≤ 64 := by have := D2.len; rw [List.length_map] at this; omega
  rw [hws] at P1 P2 HED hS
  rw [hN] at P1 P2 HLG HV c1 D3 ⊢
  have HWS := hid hlen; have HPOS := hid hS; have HN := hid hN
  have PA := fun V => hid (r3_All V m (by omega))
  have t1 : decide ((m : Int) < 0) = false := by simp
  have t2 : decide ((8 : Int) < (m : Int)) = false := by simp; omega
  have hp : 2 ^ m ≤ 256 := Nat.le_trans (Nat.pow_le_pow_right (by omega) hm) (by decide)
  obtain ⟨M, hM⟩ : ∃ M, 2 ^ m = M := ⟨_, rfl⟩
  have HM := hid hM
  have HAL := hid (show (allW m).length = M by rw [allW_length, hM])
  rw [hM] at hp P1 P2
  obtain ⟨LT, hLT⟩ : ∃ s, shB (M - lwS ws M N) M = s := ⟨_, rfl⟩
  have HLT := hid hLT
  rw [hLT] at P2
  have hmk := make_ints N (by omega)
  clear hL hv hg er el he hW D1 D2 hl1 ed hws hN hlen hS hM hLT
  go_enter Tryz.func4, Tryz.ntmps4
  go_wp2_with fail
  refine HLV.out.mono ?_; rintro e w1 ⟨rfl, hb1⟩
  have y1 := hid hb1; clear hb1
  go_wp2_with fail
  refine (HLG _ (HV.out.call y1.out)).out.mono ?_; rintro e w2 ⟨rfl, rfl⟩
  go_wp2_with fail
  refine (P1 _ _ (HV.out.call y1.out) (HL.out.call y1.out)).out.mono ?_; rintro e w2 ⟨⟨u, rfl, hu⟩, hb2⟩
  have y2 := hid (bnext y1.out hb2)
  have U2 := hid hu
  obtain ⟨a2, k2, rfl, u1, u2, -⟩ := hu.ex
  obtain ⟨D, hD⟩ : ∃ D, (sortM (lawP ws M N)).length = D := ⟨_, rfl⟩
  rw [hD] at U2 u1 ⊢
  have HD := hid hD
  clear hb2 hu hD
  go_wp2_with fail
  refine (P2 _ _ (HV.out.call y2.out) (HL.out.call y2.out)).out.mono ?_; rintro e w3 ⟨rfl, hb3⟩
  have y3 := hid (bnext y2.out hb3)
  have U3 := hid (U2.out.call hb3)
  clear hb3
  go_wp2_with fail
  refine (PA _).out.mono ?_; rintro e w4 ⟨⟨v4, rfl, hv4⟩, hb4⟩
  have y4 := hid (bnext y3.out hb4)
  have U4 := hid (U3.out.call hb4)
  have V4 := hid hv4
  obtain ⟨a4, k4, rfl, s1, s2, -⟩ := hv4.openS
  rw [List.length_map, HAL.out] at V4 s1 ⊢
  clear hb4 hv4
  go_wp2_with fail
  have X4 := Blk.new w4 (madeCells #[.int .i64 0] N) 3
  have B4 := hid ((Below.refl w4.heap.size w4).alloc (Nat.le_refl _) (.cells (madeCells #[.int .i64 0] N) 3))
  rw [made_ints] at X4 B4 ⊢
  have X5 := hid (show Arr .i64 3 _ w4.heap.size (cntL (pkF ws) N ((allW m).take 0)) by rw [List.take_zero, cntL_nil]; exact X4)
  have U5 := hid (U4.out.call B4.out)
  have V5 := hid (V4.out.call B4.out)
  have y5 := hid (bnext y4.out B4.out)
  obtain ⟨w5, hw5⟩ : ∃ w5, w4.alloc (.cells (ints .i64 (List.replicate N 0)).toArray 3) = w5 := ⟨_, rfl⟩
  obtain ⟨g, hgg⟩ : ∃ g, w4.heap.size = g := ⟨_, rfl⟩
  rw [hw5] at X5 U5 V5 y5 ⊢
  rw [hgg] at X5 ⊢
  have G1 : Hid (w4.heap.size ≤ g) := by rw [← hgg]; exact Nat.le_refl _
  have W5 : Hid (Below g w4 w5) := by rw [← hgg, ← hw5]; exact (Below.refl w4.heap.size w4).alloc (Nat.le_refl _) _
  clear X4 B4 hw5 hgg
  go_loopw [12, 13] (fun s12 s13 wr => ∃ j : Nat, s12 = .int .i64 (noneL (pkF ws) ((allW m).take j) : Nat) ∧ s13 = .int .i64 (j : Nat) ∧ j ≤ M ∧ Hid (Arr .i64 3 wr g (cntL (pkF ws) N ((allW m).take j))) ∧ Hid (Below g w4 wr)) (fun s12 s13 wr => M - (intOf s13).toNat)
  case atStart => exact ⟨0, rfl, rfl, Nat.zero_le _, X5, W5⟩
  case round =>
    obtain ⟨j, rfl, rfl, hj, hX, hB⟩ := hrel
    have hB4 := hid (hB.out.mono G1.out)
    have yr := hid (bnext y4.out hB4.out)
    have hnle := noneL_le (pkF ws) ((allW m).take j)
    rw [List.length_take] at hnle
    by_cases hlt : j < M
    · obtain ⟨x, hx⟩ : ∃ x, (allW m)[j]? = some x := ⟨_, List.getElem?_eq_getElem (by rw [HAL.out]; exact hlt)⟩
      have hxm := List.mem_of_getElem? hx
      obtain ⟨g', o, rfl, hg', hc⟩ := V4.out.at (strs_get (show ((allW m).map tb)[j]? = some (tb x) by rw [List.getElem?_map, hx]; rfl))
      have hc2 := (hB4.out.cell (p := ⟨g', o + j, none⟩) hg').trans hc
      have HT : Hid ((allW m).take (j + 1) = (allW m).take j ++ [x]) := by show (allW m).take (j + 1) = _; rw [List.take_add_one, hx]; rfl
      have PD := P3 x hxm _ _ (HV.out.call yr.out) (HL.out.call yr.out)
      obtain ⟨e1, e2⟩ := HED.out x hxm
      rw [e1, e2] at PD
      obtain ⟨f1, f2⟩ := draw_fit HPOS.out x
      obtain ⟨X, hXX⟩ : ∃ X, tb x = X := ⟨_, rfl⟩
      rw [hXX] at PD hc2
      obtain ⟨n0, hn0⟩ : ∃ n0, noneL (pkF ws) ((allW m).take j) = n0 := ⟨_, rfl⟩
      have HN0 := hid hn0
      rw [hn0] at hnle ⊢
      have b1 : (0 : Int) ≤ (j : Int) := by omega
      have b2 : (j : Int) < (M : Int) := by omega
      have wi : IntKind.i64.wrap ((j : Int) + 1) = ((j + 1 : Nat) : Int) := by rw [IntWalk.i64_in _ ⟨by omega, by omega⟩]; omega
      have wn : IntKind.i64.wrap ((n0 : Int) + 1) = ((n0 + 1 : Nat) : Int) := by rw [IntWalk.i64_in _ ⟨by omega, by omega⟩]; omega
      obtain ⟨r, hr⟩ : ∃ r, pdr (pkF ws) 0 1 x = r := ⟨_, rfl⟩
      rw [hr] at PD f1 f2
      obtain ⟨d, vv, uu⟩ := r
      have HR := hid hr
      simp only [dw3] at PD
      clear hx hxm hc hg' e1 e2 hXX hn0 hr
      cases d
      · have fv : vv = 0 := f2 rfl
        subst fv
        have q5 : decide ((N : Int) ≤ 0) = false := by simp; omega
        have h6 : Hid (cntL (pkF ws) N ((allW m).take (j + 1)) = cntL (pkF ws) N ((allW m).take j)) := by show _ = _; rw [HT.out]; exact cntL_late (by rw [HR.out])
        have h7 : Hid (noneL (pkF ws) ((allW m).take (j + 1)) = n0 + 1) := by show _ = _; rw [HT.out, noneL_late (by rw [HR.out]), HN0.out]
        clear f1 f2
        go_wp2_with fail
        refine PD.out.mono ?_; rintro e w6 ⟨rfl, hb6⟩
        have X6 := hid ((hX.out.call hb6).call ((Below.refl _ _).alloc (Nat.le_refl _) (.cells #[.bool false, .int .i64 0, .int .i64 (uu : Nat)] 29)))
        have B6 := hid (hB.out.trans ((hb6.mono (by have := hX.out.lt; omega)).alloc (by have := hX.out.lt; have := hb6.size; omega) (.cells #[.bool false, .int .i64 0, .int .i64 (uu : Nat)] 29)))
        clear hb6
        go_wp2_with fail
        go_roundw
        case rel => exact ⟨j + 1, by rw [h7.out]; go_num, by go_num, by omega, by rw [h6.out]; exact X6, B6⟩
        case measure => simp [intOf] <;> omega
      · have fv : vv < N := by have := f1 rfl; rw [HWS.out] at this; exact this
        have q5 : decide (N ≤ vv) = false := by simp; omega
        have q6 : decide ((vv : Int) < 0) = false := by simp
        obtain ⟨k0, hk0⟩ : ∃ k0, ((allW m).take j).countP (drawsI (pkF ws) vv) = k0 := ⟨_, rfl⟩
        have hk1 : k0 ≤ 256 := by
          have := List.countP_le_length (p := drawsI (pkF ws) vv) (l := (allW m).take j)
          rw [List.length_take, hk0] at this
          omega
        have hgt := cntL_get (f := pkF ws) (W := (allW m).take j) fv
        rw [hk0] at hgt
        have h6 : Hid (cntL (pkF ws) N ((allW m).take (j + 1)) = (cntL (pkF ws) N ((allW m).take j)).set vv (k0 + 1)) := by show _ = _; rw [HT.out, cntL_done HR.out fv, hk0]
        have h7 : Hid (noneL (pkF ws) ((allW m).take (j + 1)) = n0) := by show _ = _; rw [HT.out, noneL_done (by rw [HR.out]), HN0.out]
        have HGT := hid hgt
        have wk : IntKind.i64.wrap ((k0 : Int) + 1) = ((k0 + 1 : Nat) : Int) := by rw [IntWalk.i64_in _ ⟨by omega, by omega⟩]; omega
        have b3 : (0 : Int) ≤ (vv : Int) := by omega
        have b4 : (vv : Int) < (N : Int) := by omega
        clear f1 f2 hk0 hgt
        go_wp2_with fail
        refine PD.out.mono ?_; rintro e w6 ⟨rfl, hb6⟩
        have X6 := hid ((hX.out.call hb6).call ((Below.refl _ _).alloc (Nat.le_refl _) (.cells #[.bool true, .int .i64 (vv : Nat), .int .i64 (uu : Nat)] 29)))
        have B6 := hid (hB.out.trans ((hb6.mono (by have := hX.out.lt; omega)).alloc (by have := hX.out.lt; have := hb6.size; omega) (.cells #[.bool true, .int .i64 (vv : Nat), .int .i64 (uu : Nat)] 29)))
        have m1 := X6.out.cell HGT.out
        have m2 := X6.out.free vv
        have X7 := hid (X6.out.set vv (k0 + 1))
        have B7 := hid (below_set B6.out (g := g) (i := vv) (Nat.le_refl _) (.int .i64 ((k0 + 1 : Nat) : Int)))
        clear hb6
        go_wp2_with fail
        go_roundw
        case rel => exact ⟨j + 1, by rw [h7.out], by go_num, by omega, by rw [h6.out]; exact X7, B7⟩
        case measure => simp [intOf] <;> omega
    · obtain rfl : j = M := by omega
      have q1 : decide ((j : Int) < (j : Int)) = false := by simp
      have hT : (allW m).take j = allW m := List.take_of_length_le (by rw [HAL.out]; exact Nat.le_refl _)
      rw [hT] at hX hnle ⊢
      have hNL : noneL (pkF ws) (allW m) = j - lwS ws j N := by
        have := noneL_all HPOS.out m
        rw [HM.out, HWS.out] at this
        exact this
      rw [hNL] at hnle ⊢
      obtain ⟨K, hK⟩ : ∃ K, j - lwS ws j N = K := ⟨_, rfl⟩
      have HK := hid hK
      rw [hK] at hnle ⊢
      have HLT2 := hid (show shB K j = LT by rw [← hK]; exact HLT.out)
      clear hlt hT hNL hK
      go_wp2_with fail
      obtain ⟨wq, hwq⟩ : ∃ wq : World, wq = wr := ⟨_, rfl⟩
      subst hwq
      go_loopw [16, 17] (fun s16 s17 wr => ∃ i : Nat, s16 = .int .i64 ((lawL ws j i).length : Nat) ∧ s17 = .int .i64 (i : Nat) ∧ i ≤ N ∧ Hid (Below wq.heap.size wq wr)) (fun s16 s17 wr => N - (intOf s17).toNat)
      case atStart => exact ⟨0, rfl, rfl, Nat.zero_le _, Below.refl _ _⟩
      case round =>
        obtain ⟨i, rfl, rfl, hi, hB2⟩ := hrel
        have zr := hid (bnext yr.out hB2.out)
        have hll := lawL_length ws j i
        by_cases hlt : i < N
        · have hget := cntL_all (ws := ws) HPOS.out m (i := i) (by rw [HWS.out]; exact hlt)
          rw [HWS.out, HM.out] at hget
          have m1 := (hX.out.call hB2.out).cell hget
          have hcb : cnt ws j i ≤ j := Nat.le_trans (cnt_le ws j i HPOS.out) (Nat.sub_le _ _)
          obtain ⟨ls, ls2⟩ := lawL_step ws j i
          have HLH := hid (fun h => lawP_has (ws := ws) (t := j) (N := N) hlt h)
          obtain ⟨k0, hk0⟩ : ∃ k0, cnt ws j i = k0 := ⟨_, rfl⟩
          rw [hk0] at m1 hcb ls ls2 HLH hget
          obtain ⟨F, hF⟩ : ∃ F, (lawL ws j i).length = F := ⟨_, rfl⟩
          have HF := hid hF
          rw [hF] at hll ⊢
          have b1 : (0 : Int) ≤ (i : Int) := by omega
          have b2 : (i : Int) < (N : Int) := by omega
          have wi : IntKind.i64.wrap ((i : Int) + 1) = ((i + 1 : Nat) : Int) := by rw [IntWalk.i64_in _ ⟨by omega, by omega⟩]; omega
          have wf : IntKind.i64.wrap ((F : Int) + 1) = ((F + 1 : Nat) : Int) := by rw [IntWalk.i64_in _ ⟨by omega, by omega⟩]; omega
          by_cases h0 : k0 = 0
          · have q5 : ((k0 : Int) == 0) = true := by simp [h0]
            have h8 := hid (ls h0)
            clear hF hk0 hget ls ls2 h0
            go_wp2_with fail
            go_roundw
            case rel => exact ⟨i + 1, by rw [h8.out, HF.out], by go_num, by omega, hB2⟩
            case measure => simp [intOf] <;> omega
          · have q5 : ((k0 : Int) == 0) = false := by simp; omega
            have h8 := hid (ls2 h0)
            have h9 := hid (HLH.out h0)
            have PI := fun V => hid (r2_Int V i (by omega))
            have PS := fun V => hid (w_share V k0 m (by omega) (by omega))
            rw [HM.out] at PS
            have PH := fun V v hV => hid (k_HasM V v (sortM (lawP ws j N)) (numB i) (shB k0 j) hV)
            rw [h9.out] at PH
            obtain ⟨I0, hI0⟩ : ∃ s, numB i = s := ⟨_, rfl⟩
            obtain ⟨S0, hS0⟩ : ∃ s, shB k0 j = s := ⟨_, rfl⟩
            rw [hI0, hS0] at PH
            rw [hI0] at PI
            rw [hS0] at PS
            have KK : Hid (∀ w', Below wr.heap.size wr w' → w'.cell? ⟨g, i, none⟩ = some (.int .i64 (k0 : Nat))) := fun w' hb => ((hX.out.call hB2.out).call hb).cell hget
            clear hF hk0 ls ls2 h0 hI0 hS0
            go_wp2_with fail
            refine held_plain [0, 1, 3, 4, 5, 6, 7] 5 (fun w' => w'.cell? ⟨g, i, none⟩ = some (.int .i64 (k0 : Nat))) (by kernel_rfl) (by kernel_rfl) (by kernel_rfl) (by kernel_rfl) (KK.out _ (Below.refl _ _).drew) ?_
            iterate 7
              refine ⟨_, rfl, ?_⟩
              apply Exists.intro
              refine ⟨.inl ⟨by rfl, ?_⟩, ?_⟩
              · (intro W' hW'; obtain q9 := hW'; go_simp; try (with_reducible rfl))
              (dsimp only [Act.put]; try simp only [List.setIfInBounds_toArray, List.set_cons_zero, List.set_cons_succ])
            refine held_one (i := 2) (by kernel_rfl) (by rfl) (by rfl) ?_
            go_wp2_with fail
            refine (PI _).out.mono ?_; rintro e w7 ⟨rfl, rfl⟩
            go_wp2_with fail
            refine ⟨KK.out _ (Below.refl _ _).drew, ?_⟩
            refine held_one (i := 8) (by kernel_rfl) (by rfl) (by rfl) ?_
            go_wp2_with fail
            refine (PS _).out.mono ?_; rintro e w8 ⟨rfl, hb8⟩
            have x8 := hid (show Below wr.heap.size wr w8 from (Below.refl _ _).drew.trans hb8)
            clear hb8
            go_wp2_with fail
            refine ⟨KK.out _ x8.out, ?_⟩
            refine held_more (is := [9]) (g := 2) (by kernel_rfl) rfl (KK.out _ x8.out) (by kernel_rfl) ?_
            iterate 1
              refine ⟨_, rfl, ?_⟩
              apply Exists.intro
              refine ⟨.inl ⟨by rfl, ?_⟩, ?_⟩
              · (intro W' hW'; obtain q9 := hW'; go_simp; try (with_reducible rfl))
              (dsimp only [Act.put]; try simp only [List.setIfInBounds_toArray, List.set_cons_zero, List.set_cons_succ])
            refine held_one (i := 10) (by kernel_rfl) (by rfl) (by rfl) ?_
            go_wp2_with fail
            refine (PH _ _ (((U4.out.call hB4.out).call hB2.out).call x8.out)).out.mono ?_; rintro e w9 ⟨rfl, hb9⟩
            have x9 := hid (bnext x8.out hb9)
            clear hb9
            go_wp2_with fail
            refine ⟨KK.out _ x9.out, ?_⟩
            refine held_more (is := [11]) (g := 0) (by kernel_rfl) rfl (KK.out _ x9.out) (by kernel_rfl) ?_
            iterate 1
              refine ⟨_, rfl, ?_⟩
              apply Exists.intro
              refine ⟨.inl ⟨by rfl, ?_⟩, ?_⟩
              · (intro W' hW'; obtain q9 := hW'; go_simp; try (with_reducible rfl))
              (dsimp only [Act.put]; try simp only [List.setIfInBounds_toArray, List.set_cons_zero, List.set_cons_succ])
            refine wpAnyH_done (by kernel_rfl) ?_ _
            simp only [Only]
            go_wp2_with fail
            go_roundw
            case rel => exact ⟨i + 1, by rw [h8.out, List.length_append, HF.out]; rfl, by go_num, by omega, hid (bnext hB2.out x9.out)⟩
            case measure => simp [intOf] <;> omega
        · obtain rfl : i = N := by omega
          have q1 : decide ((i : Int) < (i : Int)) = false := by simp
          have zz := hid (bnext hB4.out hB2.out)
          clear hlt
          obtain ⟨F, hF⟩ : ∃ F, (lawL ws j i).length = F := ⟨_, rfl⟩
          rw [hF] at hll ⊢
          have wf : IntKind.i64.wrap ((F : Int) + 1) = ((F + 1 : Nat) : Int) := by rw [IntWalk.i64_in _ ⟨by omega, by omega⟩]; omega
          have HF := hid hF
          obtain ⟨G, hG⟩ : ∃ G, (lawP ws j i).length = G := ⟨_, rfl⟩
          have HG := hid hG
          clear hF hG
          obtain ⟨tb0, htb⟩ : ∃ b, decide (K > 0) = b := ⟨_, rfl⟩
          go_upto_if 141 with fail
          have HTB := hid htb
          clear htb
          go_cut [16] (fun s16 wc => s16 = .int .i64 (G : Nat) ∧ Hid (Below wq.heap.size wq wc))
          case first =>
            by_cases h0 : K = 0
            · obtain rfl : false = tb0 := by rw [← HTB.out]; simp [h0]
              have e0 : G = F := by rw [← HG.out, ← HF.out, lawP, if_pos (by rw [HK.out]; exact h0)]
              subst e0
              clear h0
              go_wp2_with fail
              go_meet
              case rel => exact ⟨rfl, hB2⟩
            · obtain rfl : true = tb0 := by rw [← HTB.out]; simp; omega
              obtain ⟨k1, k2⟩ := lawP_last (ws := ws) (t := j) (N := i) (by rw [HK.out]; exact h0)
              have e0 : F + 1 = G := by rw [← HG.out, ← HF.out, k2]
              rw [HK.out, HLT2.out] at k1
              have PH := fun V v hV => hid (k_HasM V v (sortM (lawP ws j i)) lateB LT hV)
              rw [k1] at PH
              unfold lateB at PH
              have E0 := hid e0
              clear h0 k1 k2 e0
              go_wp2_with fail
              refine (PH _ _ ((U4.out.call hB4.out).call hB2.out)).out.mono ?_; rintro e w9 ⟨rfl, hb9⟩
              have x9 := hid (bnext hB2.out hb9)
              clear hb9
              go_wp2_with fail
              go_meet
              case rel => exact ⟨by rw [← E0.out]; go_num, x9⟩
          case rest =>
            obtain ⟨rfl, hB3⟩ := hcut
            have hDG : D = G := by rw [← HD.out, ← HG.out, sortM_length]
            subst hDG
            have zc := hid (bnext hB4.out hB3.out)
            have UC := hid (U4.out.call zc.out)
            have yc := hid (bnext y4.out zc.out)
            go_wp2_with fail
            go_loopw [18] (fun s18 wr => ∃ q : Nat, s18 = .int .i64 (q : Nat) ∧ 1 ≤ q ∧ q ≤ D + 1 ∧ Hid (Below wc.heap.size wc wr)) (fun s18 wr => D + 1 - (intOf s18).toNat)
            case atStart => exact ⟨1, rfl, Nat.le_refl _, by omega, Below.refl _ _⟩
            case round =>
              obtain ⟨q, rfl, hq1, hq2, hB5⟩ := hrel
              by_cases hlt : q < D
              · obtain ⟨p1, hp1⟩ : ∃ x, (sortM (lawP ws j i))[q - 1]? = some x := ⟨_, List.getElem?_eq_getElem (by rw [HD.out]; omega)⟩
                obtain ⟨p2, hp2⟩ : ∃ x, (sortM (lawP ws j i))[q]? = some x := ⟨_, List.getElem?_eq_getElem (by rw [HD.out]; omega)⟩
                have hst := lawP_strict (ws := ws) (t := j) (N := i) (i := q - 1) hp1 (by rw [show q - 1 + 1 = q by omega]; exact hp2)
                obtain ⟨a9, k9, e9, -, -, h9⟩ := (UC.out.call hB5.out).ex
                obtain ⟨g1, o1, r1, -, m1, -⟩ := h9 _ _ hp1
                obtain ⟨g2, o2, r2, -, m2, -⟩ := h9 _ _ hp2
                simp only [Value.slice.injEq] at e9
                obtain ⟨rfl, -, rfl⟩ := e9
                rw [r1] at r2
                simp only [Option.some.injEq, Addr.mk.injEq, and_true] at r2
                obtain ⟨rfl, rfl⟩ := r2
                subst r1
                obtain ⟨x1, x2⟩ := p1
                obtain ⟨z1, z2⟩ := p2
                dsimp only [keyL] at m1 m2 hst
                have b1 : (0 : Int) ≤ (q : Int) - 1 := by omega
                have b2 : (q : Int) - 1 < (D : Int) := by omega
                have b5 : (1 : Int) ≤ (q : Int) := by omega
                have b3 : (0 : Int) ≤ (q : Int) := by omega
                have b4 : (q : Int) < (D : Int) := by omega
                have wq1 : IntKind.i64.wrap ((q : Int) - 1) = (q : Int) - 1 := by rw [IntWalk.i64_in _ ⟨by omega, by omega⟩]
                have wi : IntKind.i64.wrap ((q : Int) + 1) = (q : Int) + 1 := by rw [IntWalk.i64_in _ ⟨by omega, by omega⟩]
                have tn : ((q : Int) - 1).toNat = q - 1 := by omega
                rw [Nat.mul_comm 2] at m1 m2
                have hbl := less_lt hst
                clear hp1 hp2 h9 hst
                go_wp2_with fail
                refine held_plain [0, 1, 2, 3, 4, 5, 6, 7, 8, 9, 10, 11] 0 (fun w' => w'.cell? ⟨g1, o1 + (q - 1) * 2, none⟩ = some (.string x1) ∧ w'.cell? ⟨g1, o1 + q * 2, none⟩ = some (.string z1)) (by kernel_rfl) (by kernel_rfl) (by kernel_rfl) (by kernel_rfl) ⟨m1, m2⟩ ?_
                iterate 12
                  refine ⟨_, rfl, ?_⟩
                  apply Exists.intro
                  refine ⟨.inl ⟨by rfl, ?_⟩, ?_⟩
                  · (intro W' hW'; obtain ⟨q1, q2⟩ := hW'; go_simp; try (with_reducible rfl))
                  (dsimp only [Act.put]; try simp only [List.setIfInBounds_toArray, List.set_cons_zero, List.set_cons_succ])
                refine wpAnyH_done (by kernel_rfl) ?_ _
                simp only [Only]
                go_wp2_with fail
                go_roundw
                case rel => exact ⟨q + 1, by go_num, by omega, by omega, hB5.out.drew⟩
                case measure => simp [intOf] <;> omega
              · have q1 : decide (q < D) = false := by simp; omega
                have ye := hid (bnext yc.out hB5.out)
                have PS := fun V => hid (w_share V K m (by omega) (by omega))
                rw [HM.out, HLT2.out] at PS
                clear hlt
                go_wp2_with fail
                refine (PS _).out.mono ?_; rintro e w9 ⟨rfl, hb9⟩
                have yf := hid (bnext ye.out hb9)
                clear hb9
                go_wp2_with fail
                go_ret
                exact ⟨rfl, yf.out⟩
end Go.Proofs.YtjgcjjbnnlnilaaGreatDoor

/- The walk of law05.PickCounts, whole. -/
namespace Go.Proofs.YtjgcjjbnnlnilaaGreatDoor
open Go.RowKit Go.Shelf

theorem w_PickCounts (w : World) (v : Value) (l : List ByteArray) (n : Int) (hv : Row w v (strs l)) (hn1 : -9223372036854775808 ≤ n) (hn2 : n ≤ 9223372036854775807) (hL : Lay w) :
    Calls Tryz.prog 4 #[v, .int .i64 n] w fun e w' => e = .returned (.bool true) ∧ Below w.heap.size w w' := by
  by_cases h : longB l = true ∨ n < 0 ∨ 8 < n ∨ lawE l n ≠ 0
  · exact pc_err w v l n hv hn1 hn2 hL h
  · have h1 : ¬ longB l = true := fun e => h (.inl e)
    have h2 : 0 ≤ n := by
      rcases Int.lt_or_le n 0 with e | e
      · exact absurd (.inr (.inl e)) h
      · exact e
    have h3 : n ≤ 8 := by
      rcases Int.lt_or_le 8 n with e | e
      · exact absurd (.inr (.inr (.inl e))) h
      · exact e
    have h4 : lawE l n = 0 := Decidable.not_not.1 fun e => h (.inr (.inr (.inr e)))
    obtain ⟨m, rfl⟩ : ∃ m : Nat, n = (m : Nat) := ⟨n.toNat, by omega⟩
    exact pc_ok w v l m hv h1 (by omega) h4 hL
end Go.Proofs.YtjgcjjbnnlnilaaGreatDoor

/- PickCounts: the row and the tied card: for every input the law answers true; conditions: none beyond the row's own. -/
namespace Go.Proofs.YtjgcjjbnnlnilaaGreatDoor
open Go.ChangeShapes Go.WideShapes Go.ChangeAt Go.RowKit
open Go.ChangeMaps (open_string shut_string)
set_option linter.unusedVariables false

set_option maxRecDepth 100000 in
set_option maxHeartbeats 1000000 in
theorem pickCounts_lifted (os : Os) (started : os.Started) (H : Type) (enc : TypeId × Value → H) (F : Stop.Interp) :
    ReturnsInHanded {} Tryz.checked os 4 .any ((OpenSpec.ofChange Rows.pickCountsSpec).preRow enc Tryz.prog Tryz.f4 Rows.pickCountsRow.domain false Rows.pickCountsRow.laid)
      (((OpenSpec.ofChange Rows.pickCountsSpec).at F).post enc Tryz.prog Tryz.f4 false true false false) := by
  refine returnsInHanded_of_row (C := Tryz.checked) (s := OpenSpec.ofChange Rows.pickCountsSpec) own started (by kernel_rfl) Tryz.func4
    (ChangeSpec.witness_shaped (enc := enc) (C := Tryz.checked) (os := os) (s := Rows.pickCountsSpec) (conds := Rows.pickCountsRow.domain) (fn := Tryz.f4) (X := fun w _ => laidMetH Tryz.prog Rows.pickCountsRow.laid w) false (World.laidAll Tryz.prog os Rows.pickCountsRow.laid) #[.slice none 0 0, .int .i64 0] 8 (World.laidAll_os _ _ _)
      (World.shaped_of_ZipB (by kernel_rfl) (by kernel_rfl)) (by kernel_rfl) (by kernel_rfl) (by kernel_rfl)
      (by rw [MakeChecks.laidMetH_plain _ _ _ (by kernel_rfl)]; exact laidMet_laidAll _ (by kernel_rfl) (by kernel_rfl))) ?_
  intro W base args ds gs before hval0 hW _ _ _ hL hsh _
  have hval : ∀ (j : Nat) t v, Tryz.f4.params[j]? = some t → args[j]? = some v → Value.okWide Tryz.prog W .any base t v := hval0
  have hW' := hW
  obtain ⟨p, q, hA0, hV, rfl, hfz, hnd⟩ := hW
  have hA : DataW.TrodAll enc Tryz.prog W 0 (fun _ => true) true Tryz.f4.params.toList args.toList ds p := hA0
  rw [Tryz.params4] at hA hval
  obtain ⟨v0, vs0, d0, ds0, p0, q0, hargs, rfl, rfl, h0, r0⟩ := trodAll_cons hA
  obtain ⟨v1, vs1, d1, ds1, p1, q1, rfl, rfl, rfl, h1, r1⟩ := trodAll_cons r0
  obtain ⟨rfl, rfl, rfl⟩ := trodAll_nil r1
  obtain rfl : args = #[v0, v1] := by cases args; simp_all
  obtain ⟨rfl, rfl⟩ := trodVars_none hV
  have k0 := h0
  have lt0 : ∀ x ∈ p0, x.block < W.heap.size := by obtain ⟨m, hm⟩ := k0; exact DataW.trod_lt m _ _ _ hm
  have k1 := h1
  have lt1 : ∀ x ∈ p1, x.block < W.heap.size := by obtain ⟨m, hm⟩ := k1; exact DataW.trod_lt m _ _ _ hm
  obtain ⟨l0, R0, Z0⟩ := open_txts Tryz.underlying22 Tryz.underlying23 (by kernel_rfl) (hval 0 22 v0 rfl rfl) h0
  obtain ⟨a1, rfl, rfl, rfl, w1⟩ := open_int Tryz.underlying3 (hval 1 3 v1 rfl rfl) h1
  have b1 := bounds_i64 w1
  clear hA0 hval0
  refine (w_PickCounts W v0 l0 a1 R0 b1.1 b1.2 (lay_of hL hsh)).mono fun e W' ⟨he, bel⟩ => ?_
  subst he
  exact ⟨_, rfl, _, _, _, [], _, [], hW', trodAll_mk1 (shut_bool Tryz.underlying4 _), (trodAll_cons_mk (Below.trod laidOut (by kernel_rfl) (of_decide_eq_true (by kernel_rfl)) k0 bel lt0) (trodAll_cons_mk (Below.trod laidOut (by kernel_rfl) (of_decide_eq_true (by kernel_rfl)) k1 bel lt1) trodAll_mk0)), rfl, bel.frame _, fun h => by cases h⟩

theorem pickCounts_holds : Rows.pickCountsRow.holds Tryz.pinned (OpenSpec.ofChange Rows.pickCountsSpec) :=
  OpenClaim.holds_of_cond 4 Tryz.f4 rfl rfl rfl rfl rfl rfl rfl ⟨rfl, rfl, rfl, rfl, rfl⟩ rfl rfl rfl rfl rfl (by kernel_rfl) Tryz.func4 (by kernel_rfl)
    (of_decide_eq_true (by kernel_rfl)) (by unfold Func.isWrapper; first | (rw [if_pos (by decide +kernel)]; kernel_rfl) | (rw [if_neg (by decide +kernel)]; exact ⟨rfl, rfl⟩))
    (fun os started H enc _ F0 => by rw [OpenClaim.pre_eq_preRow]; exact pickCounts_lifted os started H enc F0)

theorem pickCounts_card : Rows.PickCountsCardSaid :=
  Claim7.holds_tied_plain_at .later [] [.data, .data, .data, .data, .sentinel, .sentinel, .pinned] true Rows.pickCountsCard.stood.harness true
    pickCounts_holds (fun _ h => by cases h) (by kernel_rfl) (fun _ h => by cases h) pickCounts_row_tie rfl ⟨rfl, rfl⟩ (by kernel_rfl) rfl
    (fun f fn hf hfn => by
      obtain rfl : f = 4 := Option.some.inj ((show Tryz.prog.funcNamed "privhouse/privhouselaw05.PickCounts" = some 4 by kernel_rfl).symm.trans hf) |>.symm
      obtain rfl : fn = Tryz.f4 := (Option.some.inj (Tryz.func4.symm.trans hfn)).symm
      exact ⟨by kernel_rfl, fun j t ht => by
        rw [Tryz.params4] at ht
        have hm : t ∈ [22, 3] := by simpa using Array.mem_of_getElem? ht
        have hall : ([22, 3].all fun u => !Tryz.prog.wantsStandIn u) = true := by kernel_rfl
        exact (show Tryz.prog.wantsStandIn t = false by simpa using List.all_eq_true.1 hall t hm)⟩)
    (by kernel_rfl)
#print axioms pickCounts_card
end Go.Proofs.YtjgcjjbnnlnilaaGreatDoor
