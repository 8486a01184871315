/- Texts that the proof rests on, merged: Pc2, Pc3, Sh3, Rep, Sd, Tt, NpG, Lt, Gt0, PcB, Ta, Fr2, Rt5. -/
import Derived.Test.YtccalhlhdiapiaaGreatDoorKm7
import Derived.Shelf.Bits.Mul64
import Derived.Ground.NamesProg
import Derived.Test.YtccalhlhdiapiaaGreatDoorProg
import Derived.Laws.CopyOwn
import Derived.Deep.DeepCutAuto
import Derived.RegionTactic
import Derived.Deep.LoopGhost
import Derived.WalkLawsBesides
import Derived.Sort.Walk0
namespace Go.Proofs.YtccalhlhdiapiaaGreatDoor
open Go.RowKit Go.Shelf
open Go.Lib (decDigits nDigits)
set_option linter.unusedVariables false
set_option linter.unusedSimpArgs false
theorem info_bits : (Tryz.prog.info? 49).map (fun i => (i.zero, i.size, i.bytes)) = some (some (.string ⟨#[]⟩), 1, 16) := by kernel_rfl
/-- A word as a text. -/
def tb (l : List UInt8) : ByteArray := ⟨l.toArray⟩
theorem tb_size (l : List UInt8) : (tb l).size = l.length := by simp [tb, ByteArray.size]
theorem tb_snoc (l : List UInt8) (b : UInt8) : tb l ++ (⟨#[b]⟩ : ByteArray) = tb (l ++ [b]) := by
  apply ba_ext
  simp [tb]
/-- The words behind some words. -/
def nextW (L : List (List UInt8)) : List (List UInt8) := L.flatMap fun l => [l ++ [48], l ++ [49]]
theorem nextW_snoc (L : List (List UInt8)) (l : List UInt8) : nextW (L ++ [l]) = nextW L ++ [l ++ [48], l ++ [49]] := by simp [nextW]
set_option maxRecDepth 100000 in
set_option maxHeartbeats 4000000 in
theorem r3_All (w : World) (n : Nat) (hn : n ≤ 12) :
    Calls Tryz.prog 35 #[.int .i64 (n : Nat)] w fun e w' => (∃ v, e = .returned (.tuple #[v, .int .i64 0]) ∧ Row w' v (strs ((allW n).map tb))) ∧ Below w.heap.size w w' := by
  obtain ⟨i0, hi, hz0, hz1, hz2⟩ := info_parts info_bits
  have t1 : decide ((n : Int) < 0) = false := by simp
  have t2 : decide ((12 : Int) < (n : Int)) = false := by simp; omega
  have R0 : Row (w.alloc (.cells #[.string ⟨#[]⟩] 49)) (.slice (some ⟨w.heap.size, 0, none⟩) 1 1) (strs ((allW 0).map tb)) :=
    Row.of_blk (n := 1) (Blk.new w _ _) rfl (by decide) (fun i x h => by
      rcases i with _ | i
      · simp [allW, strs, tb] at h ⊢; exact h
      · simp [allW, strs, tb] at h) (Nat.le_refl 1) (by decide)
  have HR0 := hid R0
  have B0 := hid ((Below.refl w.heap.size w).alloc (Nat.le_refl _) (.cells #[.string ⟨#[]⟩] 49))
  clear R0
  go_enter Tryz.func35, Tryz.ntmps35
  go_wp2_with fail
  go_loopw [0, 4] (fun s0 s4 wr => ∃ j : Nat, j ≤ n ∧ s0 = .int .i64 ((n - j : Nat) : Int) ∧ Hid (Row wr s4 (strs ((allW j).map tb))) ∧ Hid (Below w.heap.size w wr)) (fun s0 s4 wr => (intOf s0).toNat)
  case atStart => exact ⟨0, Nat.zero_le _, rfl, HR0, B0⟩
  case round =>
    obtain ⟨j, hj, rfl, hR, hB⟩ := hrel
    by_cases hlt : j < n
    · have q1 : decide (0 < n - j) = true := by simp; omega
      have hp : 2 ^ j ≤ 4096 := Nat.le_trans (Nat.pow_le_pow_right (by omega) (show j ≤ 12 by omega)) (by decide)
      have hlen : ((allW j).map tb).length = 2 ^ j := by rw [List.length_map, allW_length]
      obtain ⟨m, hm⟩ : ∃ m, 2 ^ j = m := ⟨_, rfl⟩
      rw [hm] at hp hlen
      obtain ⟨a, c, rfl, c1, c2, -⟩ := hR.out.openS
      rw [hlen] at hR c1 ⊢
      have HLN := hid hlen
      have q2 : (0 : Int) < ((n - j : Nat) : Int) := by omega
      have wn : IntKind.i64.wrap (((n - j : Nat) : Int) - 1) = ((n - (j + 1) : Nat) : Int) := by rw [IntWalk.i64_in _ ⟨by omega, by omega⟩]; omega
      have HWN := hid wn
      obtain ⟨wo, hwo⟩ : ∃ wo : World, wo = wr := ⟨_, rfl⟩
      subst hwo
      have HBO := hid hB.out.size
      clear hlen hm wn
      go_wp2_with fail
      clear q1
      go_loopw [5, 6] (fun s5 s6 wr => ∃ i : Nat, i ≤ m ∧ s6 = .int .i64 (i : Nat) ∧ Hid (wr.ownsRow wo.heap.size 49 1 s5 (2 * i) (strs ((nextW ((allW j).take i)).map tb))) ∧ Hid (Below wo.heap.size wo wr)) (fun s5 s6 wr => m - (intOf s6).toNat)
      case atStart => exact ⟨0, Nat.zero_le _, rfl, ⟨rfl, .inl ⟨rfl, rfl⟩⟩, Below.refl _ _⟩
      case round =>
        obtain ⟨i, hi2, rfl, hO, hB2⟩ := hrel
        by_cases hlt2 : i < m
        · obtain ⟨l, hl⟩ : ∃ l, (allW j)[i]? = some l := ⟨_, List.getElem?_eq_getElem (by have := HLN.out; rw [List.length_map] at this; omega)⟩
          have hll := allW_len (List.mem_of_getElem? hl)
          obtain ⟨g, o, rfl, hg, hc⟩ := hR.out.at (strs_get (show ((allW j).map tb)[i]? = some (tb l) by rw [List.getElem?_map, hl]; rfl))
          have hc2 := (hB2.out.cell (p := ⟨g, o + i, none⟩) hg).trans hc
          have hsz : ¬ 9223372036854775807 < (tb l).size + 1 := by rw [tb_size]; omega
          have HX : Hid ((allW j).take (i + 1) = (allW j).take i ++ [l]) := by show (allW j).take (i + 1) = _; rw [List.take_add_one, hl]; rfl
          have b1 : (0 : Int) ≤ (i : Int) := by omega
          have b2 : (i : Int) < (m : Int) := by omega
          have wi : IntKind.i64.wrap ((i : Int) + 1) = ((i + 1 : Nat) : Int) := by rw [IntWalk.i64_in _ ⟨by omega, by omega⟩]; omega
          have e1 := hid (tb_snoc l 48)
          have e2 := hid (tb_snoc l 49)
          have KK : Hid (∀ w', Below wr.heap.size wr w' → w'.cell? ⟨g, o + i, none⟩ = some (.string (tb l))) := fun w' hb => (hb.cell (p := ⟨g, o + i, none⟩) (Nat.lt_of_lt_of_le hg hB2.out.size)).trans hc2
          obtain ⟨X, hX⟩ : ∃ X, tb l = X := ⟨_, rfl⟩
          rw [hX] at hc2 hsz e1 e2 KK
          clear hl hll hc hX
          go_wp2_with fail
          refine held_plain [0, 1, 2, 3, 4, 5, 6, 7, 8, 9, 10] 3 (fun w' => w'.cell? ⟨g, o + i, none⟩ = some (.string X)) (by kernel_rfl) (by kernel_rfl) (by kernel_rfl) (by kernel_rfl) (KK.out _ (Below.refl _ _).drew) ?_
          iterate 11
            refine ⟨_, rfl, ?_⟩
            apply Exists.intro
            refine ⟨.inl ⟨by rfl, ?_⟩, ?_⟩
            · (intro W' hW'; obtain q1 := hW'; go_simp; try (with_reducible rfl))
            (dsimp only [Act.put]; try simp only [List.setIfInBounds_toArray, List.set_cons_zero, List.set_cons_succ])
          refine held_one (i := 11) (by kernel_rfl) (by rfl) (by rfl) ?_
          go_wp2_with fail
          refine ⟨KK.out _ ((Below.refl _ _).drew.alloc (Nat.le_refl _) _), ?_⟩
          refine held_one (i := 12) (by kernel_rfl) (by rfl) (by rfl) ?_
          have cells : ∀ j u, [Value.string (X ++ ⟨#[48]⟩), .string (X ++ ⟨#[49]⟩)][j]? = some u → (wr.alloc (.cells #[.string (X ++ ⟨#[48]⟩), .string (X ++ ⟨#[49]⟩)] 49)).drew.cell? ((⟨wr.heap.size, 0, none⟩ : Addr).add j) = some u := cell_two_new wr _ _ 49
          refine wpList_append_own _ rfl _ _ 54 rfl wo.heap.size 49 i0 (.string ⟨#[]⟩) 1 16 Tryz.underlying54 hi hz0 hz1 hz2 rfl (by decide) _ (2 * i) _ rfl (hO.out.alloc _) ⟨wr.heap.size, 0, none⟩ 2 2 [.string (X ++ ⟨#[48]⟩), .string (X ++ ⟨#[49]⟩)] rfl rfl cells (by simp [Value.oneCell']) (by unfold maxLen; omega) (by omega) (by have := hB2.out.size; simp; omega) ?_
          intro v' w3 hown3 hgrow3 _
          have hO3 := hid (show w3.ownsRow wo.heap.size 49 1 v' (2 * (i + 1)) (strs ((nextW ((allW j).take (i + 1))).map tb)) by
            rw [HX.out, nextW_snoc, List.map_append, strs_append]
            have h2 : strs ([l ++ [48], l ++ [49]].map tb) = [.string (X ++ ⟨#[48]⟩), .string (X ++ ⟨#[49]⟩)] := by
              rw [e1.out, e2.out]; rfl
            rw [h2]
            exact hown3)
          have hB3 : Hid (Below wo.heap.size wo w3) := by
            refine ((hB2.out.alloc hB2.out.size _).drew).trans ⟨hgrow3.os, hgrow3.tape, hgrow3.output, hgrow3.size, fun k hk => hgrow3.block k (by have := hB2.out.size; simp; omega) (fun e => ?_)⟩
            have := (hO.out.lt k e.symm).1
            omega
          have m0 : w3.cell? ⟨g, o + i, none⟩ = some (.string X) := (hB3.out.cell (p := ⟨g, o + i, none⟩) hg).trans ((hB2.out.cell (p := ⟨g, o + i, none⟩) hg).symm.trans hc2)
          clear hown3 hgrow3 cells
          go_wp2_with fail
          refine ⟨m0, ?_⟩
          refine held_more (is := [13]) (g := 0) (by kernel_rfl) rfl m0 (by kernel_rfl) ?_
          iterate 1
            refine ⟨_, rfl, ?_⟩
            apply Exists.intro
            refine ⟨.inl ⟨by rfl, ?_⟩, ?_⟩
            · (intro W' hW'; obtain q1 := hW'; go_simp; try (with_reducible rfl))
            (dsimp only [Act.put]; try simp only [List.setIfInBounds_toArray, List.set_cons_zero, List.set_cons_succ])
          refine wpAnyH_done (by kernel_rfl) ?_ _
          simp only [Only]
          go_wp2_with fail
          go_roundw
          case rel => exact ⟨i + 1, by omega, by go_num, hO3, hB3⟩
          case measure => simp [intOf] <;> omega
        · obtain rfl : i = m := by omega
          have q1 : decide ((i : Int) < (i : Int)) = false := by simp
          have h := hO.out
          rw [List.take_of_length_le (by have := HLN.out; rw [List.length_map] at this; omega)] at h
          have hrow := hid (show Row _ _ (strs ((allW (j + 1)).map tb)) from Row.of_owns h)
          have hB3 := hid (hB.out.trans (hB2.out.mono HBO.out))
          have wn := HWN.out
          clear hlt2 h
          go_wp2_with fail
          go_roundw
          case rel => exact ⟨j + 1, by omega, rfl, hrow, hB3⟩
          case measure => simp [intOf] <;> omega
    · obtain rfl : j = n := by omega
      have q1 : decide (((j - j : Nat) : Int) > 0) = false := by simp
      have q2 : ((j - j : Nat) : Int) = 0 := by simp
      obtain ⟨a, c, rfl, -⟩ := hR.out.openS
      clear hlt
      go_wp2_with fail
      go_ret2
      exact ⟨⟨_, rfl, hR.out⟩, hB.out⟩
end Go.Proofs.YtccalhlhdiapiaaGreatDoor
namespace Go.Proofs.YtccalhlhdiapiaaGreatDoor
open Go.RowKit Go.Maps
open Go.Lib (decDigits nDigits)
set_option linter.unusedVariables false
theorem sortM_strict {L : List (ByteArray × ByteArray)} (nd : (L.map keyL).Nodup) {i : Nat} {p q : ByteArray × ByteArray} (hp : (sortM L)[i]? = some p) (hq : (sortM L)[i + 1]? = some q) : ¬ keyL q ≤ keyL p := by
  intro hle
  have hs := sortM_sorted L
  obtain ⟨h1, rfl⟩ := List.getElem?_eq_some_iff.1 hp
  obtain ⟨h2, rfl⟩ := List.getElem?_eq_some_iff.1 hq
  have h3 := List.pairwise_iff_getElem.1 hs i (i + 1) h1 h2 (by omega)
  simp only [leB, decide_eq_true_eq] at h3
  have e := List.le_antisymm h3 hle
  have nd2 : ((sortM L).map keyL).Nodup := (((List.mergeSort_perm L _).map keyL).nodup_iff).2 nd
  have h4 := List.pairwise_iff_getElem.1 nd2 i (i + 1) (by simpa using h1) (by simpa using h2) (by omega)
  simp only [List.getElem_map] at h4
  exact h4 e
end Go.Proofs.YtccalhlhdiapiaaGreatDoor
namespace Go.Proofs
open Go.Shelf
def Tryz.lays212_ren : Go.Shelf.Ren := ⟨fun | 212 => 99 | 263 => 147 | 264 => 148 | n => n, fun | 46 => 114 | 51 => 162 | 146 => 163 | 53 => 147 | 148 => 165 | n => n, fun | n => n⟩
theorem Tryz.lays212 : Go.Proofs.Lays.n212 Tryz.prog Tryz.lays212_ren := {
  mixed := by kernel_rfl
  f212 := Tryz.func99.trans (congrArg some (by kernel_rfl))
  f263 := Tryz.func147.trans (congrArg some (by kernel_rfl))
  f264 := Tryz.func148.trans (congrArg some (by kernel_rfl))
  t46 := Tryz.underlying114
  a46 := Tryz.isAgg114
  z46 := Tryz.sizeOf114
  v46 := Tryz.zeroValue114
  t51 := Tryz.underlying162
  a51 := Tryz.isAgg162
  z51 := Tryz.sizeOf162
  v51 := Tryz.zeroValue162
  t53 := Tryz.underlying147
  a53 := Tryz.isAgg147
  z53 := Tryz.sizeOf147
  v53 := Tryz.zeroValue147
  t146 := Tryz.underlying163
  a146 := Tryz.isAgg163
  z146 := Tryz.sizeOf163
  v146 := Tryz.zeroValue163
  t148 := Tryz.underlying165
  a148 := Tryz.isAgg165
  z148 := Tryz.sizeOf165
  v148 := Tryz.zeroValue165 }
open Go.RowKit Go.Lib in
theorem Tryz.bits_Mul (x y : Nat) (hx : x < 18446744073709551616) (hy : y < 18446744073709551616) (w : World) :
    Calls Tryz.prog 99 #[.int .u64 x, .int .u64 y] w fun e w' => e = .returned (.tuple #[.int .u64 ((x * y / 18446744073709551616 : Nat) : Int), .int .u64 ((x * y % 18446744073709551616 : Nat) : Int)]) ∧ w' = w := Any.bits_Mul Tryz.lays212 x y hx hy w
end Go.Proofs
namespace Go.Proofs.YtccalhlhdiapiaaGreatDoor
open Go.RowKit
set_option linter.unusedVariables false
set_option linter.unusedSimpArgs false
/-- A row of texts. -/
def strsR (l : List ByteArray) : List Value := l.map Value.string
@[simp] theorem strsR_length (l : List ByteArray) : (strsR l).length = l.length := by simp [strsR]
theorem strsR_get {l : List ByteArray} {i : Nat} {s : ByteArray} (h : l[i]? = some s) : (strsR l)[i]? = some (.string s) := by simp [strsR, h]
theorem strsR_one (l : List ByteArray) : ∀ u ∈ strsR l, u.oneCell' = true := by
  intro u hu
  obtain ⟨x, _, rfl⟩ := List.mem_map.1 hu
  rfl
theorem make_strsR (n : Nat) (h : n ≤ 1000000) (W : World) : (Instr.makeSlice 50 (.int .i64 (n : Int)) (.int .i64 (n : Int))).run Tryz.prog W = .ok (.slice (some ⟨W.heap.size, 0, none⟩) n n) (W.alloc (.cells (madeCells #[.string ⟨#[]⟩] n) 22)) :=
  run_make_row' (P := Tryz.prog) 50 22 (.string ⟨#[]⟩) 16 Tryz.underlying50 (by kernel_rfl) rfl .i64 .i64 n (by omega) (by omega) W
theorem made_strsR (n : Nat) : madeCells #[.string ⟨#[]⟩] n = (strsR (List.replicate n ⟨#[]⟩)).toArray := by
  apply Array.ext_getElem?
  intro i
  unfold madeCells strsR
  by_cases hi : i < n <;> simp [hi, Nat.mod_one]
/-- k of n texts are laid. -/
def repS (s : ByteArray) (n k : Nat) : List Value := strsR (List.replicate k s ++ List.replicate (n - k) ⟨#[]⟩)
theorem repS_splice {s : ByteArray} {n k m : Nat} (h : k + m ≤ n) : splice (repS s n k) k (strsR (List.replicate m s)) = repS s n (k + m) := by
  unfold splice repS strsR
  simp only [List.map_append, List.map_replicate, List.length_replicate]
  rw [List.take_append_of_le_length (by simp), List.take_of_length_le (by simp), List.drop_append, List.drop_of_length_le (by simp), List.nil_append, List.length_replicate, List.drop_replicate, ← List.append_assoc, List.replicate_append_replicate]
  rw [show n - k - (k + m - k) = n - (k + m) by omega]
set_option maxRecDepth 100000 in
set_option maxHeartbeats 2000000 in
theorem s_Repeat (w : World) (g0 n : Nat) (s : ByteArray) (h1 : 1 ≤ n) (h2 : n ≤ 100000) (hc : w.cell? ⟨g0, 0, none⟩ = some (.string s)) :
    Calls Tryz.prog 60 #[.slice (some ⟨g0, 0, none⟩) 1 1, .int .i64 n] w fun e w' =>
      e = .returned (.slice (some ⟨w.heap.size, 0, none⟩) n n) ∧ Blk w' w.heap.size (strsR (List.replicate n s)).toArray 22 ∧ Below w.heap.size w w' := by
  have HM := fun W => hid (make_strsR n (by omega) W)
  have HB := fun W => hid (Tryz.bits_Mul 1 n (by omega) (by omega) W)
  have e1 : (((1 * n / 18446744073709551616 : Nat)) : Int) = 0 := by
    rw [Nat.one_mul, Nat.div_eq_of_lt (by omega)]; rfl
  have e2 : (((1 * n % 18446744073709551616 : Nat)) : Int) = (n : Int) := by
    rw [Nat.one_mul, Nat.mod_eq_of_lt (by omega)]
  rw [e1, e2] at HB
  have hn0 : (0 : Int) ≤ (n : Int) := by omega
  have hn1 : (n : Int) ≤ 100000 := by omega
  have q0 : decide ((n : Int) < 0) = false := by simp
  have hsrc : ∀ j v, (strsR [s])[j]? = some v → w.cell? ((⟨g0, 0, none⟩ : Addr).add j) = some v := by
    intro j v hj
    rcases j with _ | j
    · simp [strsR] at hj; rw [← hj]; exact hc
    · simp [strsR] at hj
  have HSRC := hid hsrc; have H1 := hid h1; have H2 := hid h2
  clear e1 e2 hsrc hc h1 h2
  go_enter Tryz.func60, Tryz.ntmps60
  go_wp2_with fail
  refine (HB _).out.mono ?_; rintro e w1 ⟨rfl, rfl⟩
  clear HB
  have HM1 := (HM w1).out
  have hc1 : (w1.alloc (.cells (madeCells #[.string ⟨#[]⟩] n) 22)).heap[w1.heap.size]? = some (.cells (repS s n 0).toArray 22 (0, 0)) := by
    have := Blk.new w1 (madeCells #[.string ⟨#[]⟩] n) 22
    rw [made_strsR] at this ⊢
    simpa [repS, Blk] using this
  have hc2 : (strsR [s]).length = Nat.min 1 n := (Nat.min_eq_left H1.out).symm
  have hc3 : ∀ j v, (strsR [s])[j]? = some v → (w1.alloc (.cells (madeCells #[.string ⟨#[]⟩] n) 22)).cell? ((⟨g0, 0, none⟩ : Addr).add j) = some v := fun j v h =>
    have h2 := HSRC.out j v h
    (((Below.refl w1.heap.size w1).alloc (Nat.le_refl _) _).cell (cell_lt h2)).trans h2
  have hc4 : 0 + (strsR [s]).length ≤ (repS s n 0).length := by simp [strsR, repS]; have := H1.out; omega
  have hc5 := (Below.refl w1.heap.size w1).alloc (Nat.le_refl _) (.cells (madeCells #[.string ⟨#[]⟩] n) 22)
  have C1 := hid hc1; have C2 := hid hc2; have C3 := hid hc3; have C4 := hid hc4; have C5 := hid hc5
  have hsp : splice (repS s n 0) 0 (strsR [s]) = repS s n 1 := by
    have := repS_splice (s := s) (n := n) (k := 0) (m := 1) (by have := H1.out; omega)
    simpa using this
  have HSP := hid hsp
  clear hc1 hc2 hc3 hc4 hc5 HM hsp
  go_wp2_with (refine wpList_copy_splice rfl (.tmp 31) (.tmp 32) 50 50 rfl 22 Tryz.underlying50 (by kernel_rfl) (some ⟨w1.heap.size, 0, none⟩) (some ⟨g0, 0, none⟩) n n 1 1 rfl rfl w1.heap.size 0 (repS s n 0) 22 C1.out (strsR [s]) C2.out (fun _ => ⟨rfl, _, rfl, C3.out⟩) C4.out (strsR_one _) w1.heap.size w1 C5.out (Nat.le_refl _) ?_; intro w2 hg2 hb2)
  rw [HSP.out] at hg2
  have G2 := hid (show Blk w2 w1.heap.size (repS s n 1).toArray 22 from hg2.out); have B2 := hid hb2
  obtain ⟨H, hH⟩ : ∃ H, w1.heap.size = H := ⟨_, rfl⟩
  rw [hH] at G2 B2 ⊢
  clear hg2 hb2 HM1 C1 C2 C3 C4 C5 HSP HSRC
  have HH := hid hH
  clear hH
  go_loopw [8] (fun i wr => ∃ k : Nat, i = .int .i64 (k : Nat) ∧ 1 ≤ k ∧ k ≤ n ∧ Hid (Blk wr H (repS s n k).toArray 22) ∧ Hid (Below H w1 wr)) (fun i wr => n - (intOf i).toNat)
  case atStart => exact ⟨1, rfl, Nat.le_refl _, H1.out, G2.out, B2.out⟩
  case round =>
    obtain ⟨k, rfl, hk1, hk2, hG, hB⟩ := hrel
    by_cases hlt : k < n
    · have f0 : (0 : Int) ≤ (k : Int) := by omega
      have f1 : (k : Int) < (n : Int) := by omega
      have f2 : (k : Int) ≤ (n : Int) := by omega
      have K1 := hid hk1; have K2 := hid hlt
      clear hk1 hk2
      go_wp2_with fail
      refine held_plain [0, 1, 2, 3, 4, 5, 6] 3 (fun _ => True) (by kernel_rfl) (by kernel_rfl) (by kernel_rfl) (by kernel_rfl) trivial ?_
      iterate 7
        refine ⟨_, rfl, ?_⟩
        apply Exists.intro
        refine ⟨.inl ⟨by rfl, ?_⟩, ?_⟩
        · (intro W' hW'; clear hW'; go_simp; try (with_reducible rfl))
        (dsimp only [Act.put]; try simp only [List.setIfInBounds_toArray, List.set_cons_zero, List.set_cons_succ])
      refine held_one (i := 7) (by kernel_rfl) (by rfl) (by rfl) ?_
      obtain ⟨m, hm⟩ : ∃ m, Nat.min k (n - k) = m := ⟨_, rfl⟩
      have hm1 : m ≤ k := hm ▸ Nat.min_le_left _ _
      have hm2 : m ≤ n - k := hm ▸ Nat.min_le_right _ _
      have hm3 : 1 ≤ m := by rw [← hm]; exact Nat.le_min.2 ⟨K1.out, by omega⟩
      have hsrc : ∀ j v, (strsR (List.replicate m s))[j]? = some v → wr.drew.cell? ((⟨H, 0, none⟩ : Addr).add j) = some v := fun j v hj => by
        rw [Addr.add_lit, Nat.zero_add]
        have hjm : j < m := by
          have := (List.getElem?_eq_some_iff.1 hj).1
          simpa using this
        have hv : v = .string s := by
          rw [strsR_get (s := s) (by rw [List.getElem?_replicate, if_pos hjm])] at hj
          cases hj; rfl
        rw [hv]
        refine (Blk.cell (Blk.drew hG.out) j).trans ?_
        rw [List.getElem?_toArray]
        exact strsR_get (by rw [List.getElem?_append_left (by simp; omega), List.getElem?_replicate, if_pos (by omega)])
      rw [if_neg (show ¬ n = k by have := K2.out; omega)]
      refine wpList_copy_splice rfl (.tmp 41) (.tmp 44) 50 50 rfl 22 Tryz.underlying50 (by kernel_rfl) (some ⟨H, k, none⟩) (some ⟨H, 0, none⟩) (n - k) (n - k) k n rfl rfl H k (repS s n k) 22 hG.out (strsR (List.replicate m s)) (by simp [hm]) (fun _ => ⟨rfl, _, rfl, hsrc⟩) (by simp [repS, strsR] <;> omega) (strsR_one _) H w1 (hB.out.drew) (Nat.le_refl _) ?_
      intro w4 hg4 hb4
      rw [show (strsR (List.replicate m s)).length = m by simp]
      rw [repS_splice (by omega)] at hg4
      have G4 := hid (show Blk w4 H (repS s n (k + m)).toArray 22 from hg4.out); have B4 := hid hb4
      have M2 := hid hm2; have M3 := hid hm3
      have f5 : (0 : Int) ≤ (m : Int) := by omega
      have f6 : (m : Int) ≤ 100000 := by omega
      have ew : IntKind.i64.wrap ((k : Int) + (m : Int)) = (k : Int) + (m : Int) := by rw [IntWalk.i64_in _ ⟨by omega, by omega⟩]
      clear hm hm1 hm2 hm3 hsrc hg4 hb4
      go_wp2_with fail
      refine ⟨trivial, ?_⟩
      refine held_more (is := [8, 9]) (g := 0) (by kernel_rfl) rfl trivial (by kernel_rfl) ?_
      iterate 2
        refine ⟨_, rfl, ?_⟩
        apply Exists.intro
        refine ⟨.inl ⟨by rfl, ?_⟩, ?_⟩
        · (intro W' hW'; clear hW'; go_simp; try (with_reducible rfl))
        (dsimp only [Act.put]; try simp only [List.setIfInBounds_toArray, List.set_cons_zero, List.set_cons_succ])
      refine wpAnyH_done (by kernel_rfl) ?_ _
      simp only [Only]
      go_wp2_with fail
      go_roundw
      case rel => exact ⟨k + m, by rw [Int.natCast_add], by have := M3.out; omega, by have := M2.out; have := K2.out; omega, G4, B4⟩
      case measure => simp [intOf] <;> (have := M3.out; have := K2.out; omega)
    · have e1 : k = n := by omega
      subst e1
      go_wp2_with fail
      go_ret
      have hh := HH.out
      subst hh
      refine ⟨rfl, ?_, hB.out⟩
      have := hG.out
      simpa [repS] using this
end Go.Proofs.YtccalhlhdiapiaaGreatDoor
namespace Go.Proofs.YtccalhlhdiapiaaGreatDoor
open Go.RowKit
open Go.Lib (decDigits nDigits)
set_option linter.unusedVariables false
set_option linter.unusedSimpArgs false
theorem p_plus (V : World) (x y : Nat) (hx : nDigits x ≤ 4000) (hy : nDigits y ≤ 4000) (h : nDigits (x + y) ≤ 4000) (hL : Lay V) : Calls Tryz.prog 61 #[.string (numB x), .string (numB y)] V fun e w' => e = .returned (.string (numB (x + y))) ∧ Below V.heap.size V w' := by
  have h2 := g_plus V (numB x) (numB y) (numB_sz hx) (numB_sz hy) hL
  rwa [natB_num hx hy h] at h2
theorem p_times (V : World) (x y : Nat) (hx : nDigits x ≤ 4000) (hy : nDigits y ≤ 4000) (h : nDigits (x * y) ≤ 4000) (hL : Lay V) : Calls Tryz.prog 62 #[.string (numB x), .string (numB y)] V fun e w' => e = .returned (.string (numB (x * y))) ∧ Below V.heap.size V w' := by
  have h2 := g_times V (numB x) (numB y) (numB_sz hx) (numB_sz hy) hL
  rwa [natB_num hx hy h] at h2
theorem p_cmp (V : World) (x y : Nat) (hx : nDigits x ≤ 4000) (hy : nDigits y ≤ 4000) : Calls Tryz.prog 97 #[.string (numB x), .string (numB y)] V fun e w' => e = .returned (.int .i64 (ordN x y)) ∧ Below V.heap.size V w' := by
  have h2 := n_Cmp V (numB x) (numB y) (numB_sz hx) (numB_sz hy)
  rwa [cmpN_num hx hy] at h2
theorem p_sub (V : World) (x y : Nat) (hx : nDigits x ≤ 4000) (hy : nDigits y ≤ 4000) (h : y ≤ x) (hL : Lay V) : Calls Tryz.prog 64 #[.string (numB x), .string (numB y)] V fun e w' => e = .returned (.tuple #[.string (numB (x - y)), .int .i64 0]) ∧ Below V.heap.size V w' := by
  have h2 := n_Sub V (numB x) (numB y) (numB_sz hx) (numB_sz hy) hL
  have h3 : ¬ 4000 < nDigits (x - y) := by have := nDigits_mono (show x - y ≤ x by omega); omega
  have e1 : pairB (subB (bN (numB x)) (bN (numB y))) (numB x) (numB y) = numB (x - y) := by
    rw [bN_num, bN_num, pairB, if_pos ⟨errN_numB hx, errN_numB hy⟩, subB, if_neg (by omega), resB, if_neg h3]
  have e2 : pairE (subE (bN (numB x)) (bN (numB y))) (numB x) (numB y) = 0 := by
    rw [bN_num, bN_num, pairE, if_pos (errN_numB hx), if_pos (errN_numB hy), subE, if_neg (by omega), resE, if_neg h3]
  rwa [e1, e2] at h2
theorem make_bools (n : Nat) (h : n ≤ 1000000) (W : World) : (Instr.makeSlice 111 (.int .i64 (n : Int)) (.int .i64 (n : Int))).run Tryz.prog W = .ok (.slice (some ⟨W.heap.size, 0, none⟩) n n) (W.alloc (.cells (madeCells #[.bool false] n) 4)) :=
  run_make_row' (P := Tryz.prog) 111 4 (.bool false) 1 Tryz.underlying111 (by kernel_rfl) rfl .i64 .i64 n (by omega) (by omega) W
theorem made_bools (f : Nat → Bool) (n : Nat) : madeCells #[.bool false] (n + 1) = (tabL f n 0).toArray := by
  rw [tabL_zero]
  apply Array.ext_getElem?
  intro i
  unfold madeCells
  by_cases hi : i < n + 1 <;> simp [hi, Nat.mod_one]
/-- Two rows of bools, in blocks of the call's own. -/
def TwoB (w : World) (H n : Nat) (v u : Value) (f g : List Value) : Prop := ∃ g1 g2, v = .slice (some ⟨g1, 0, none⟩) (n + 1) (n + 1) ∧ u = .slice (some ⟨g2, 0, none⟩) (n + 1) (n + 1) ∧ g1 ≠ g2 ∧ H ≤ g1 ∧ H ≤ g2 ∧ Blk w g1 f.toArray 4 ∧ Blk w g2 g.toArray 4
/-- What sides gives back. -/
def SidesOut (w : World) (n N D : Nat) (e : Ending) (w' : World) : Prop := ∃ v u, e = .returned (.tuple #[v, u]) ∧ TwoB w' w.heap.size n v u (allB (oneJ N D) n) (allB (zeroJ N D) n)
theorem lit_zero : ((⟨#[48]⟩ : ByteArray).toList == [48]) = true := by
  rw [Lib.toList_data]; rfl
set_option maxRecDepth 100000 in
set_option maxHeartbeats 4000000 in
theorem g_sides (w : World) (a : ByteArray) (n N D : Nat) (ha : a.size ≤ 100000) (he : gPE a = 0) (hn : n ≤ 1000) (hN : bN (cW a) = N) (hD : bN (qD a) = D) (hND : N < D) (hL : Lay w) :
    Calls Tryz.prog 98 #[.string a, .int .i64 n] w fun e w' => SidesOut w n N D e w' ∧ Below w.heap.size w w' := by
  have HR := hid (g_ratio w a ha hL)
  obtain ⟨c1, c2, c3, c4, -⟩ := cPE_ok (gPE_ok he).1
  rw [if_pos he, if_pos he, he] at HR
  rw [c1, c2, hN, hD] at HR
  rw [hN] at c3
  rw [hD] at c4
  have dN : ∀ x, x < 10 ^ (eN + 1) → nDigits x ≤ 4000 := fun x h => numB_small h (by omega) (by unfold eN; omega)
  have hM := fun W => hid (make_bools (n + 1) (by omega) W)
  have HL := hid hL; have HLL := hid hL.lt; have HND := hid hND; have DN := hid dN; have C4 := hid c4; have C3 := hid c3; have HN := hid hn
  have wn : IntKind.i64.wrap ((n : Int) + 1) = ((n + 1 : Nat) : Int) := by rw [IntWalk.i64_in _ ⟨by omega, by omega⟩]; omega
  obtain ⟨sN, hsN⟩ : ∃ s, numB N = s := ⟨_, rfl⟩
  obtain ⟨sD, hsD⟩ : ∃ s, numB D = s := ⟨_, rfl⟩
  rw [hsN, hsD] at HR
  have HSN := hid hsN; have HSD := hid hsD
  clear ha he hn hN hD hND hL c1 c2 c3 c4 dN hsN hsD
  go_enter Tryz.func98, Tryz.ntmps98
  go_wp2_with fail
  refine HR.out.mono ?_; rintro e w1 ⟨rfl, hb1⟩
  have B1 := hid hb1
  clear hb1 HR
  go_upto_region 2 with fail
  go_cut [4, 5] (fun s4 s5 wx => TwoB wx w.heap.size n s4 s5 (tabL (oneJ N D) n 0) (tabL (zeroJ N D) n 0) ∧ Below w.heap.size w wx)
  case first =>
    have X := fun (g1 g2 : Nat) (W : World) (h1 : Blk W g1 (madeCells #[.bool false] (n + 1)) 4) (h2 : Blk W g2 (madeCells #[.bool false] (n + 1)) 4) (h3 : g1 ≠ g2) (h4 : w.heap.size ≤ g1) (h5 : w.heap.size ≤ g2) => hid (show TwoB W w.heap.size n (.slice (some ⟨g1, 0, none⟩) (n + 1) (n + 1)) (.slice (some ⟨g2, 0, none⟩) (n + 1) (n + 1)) (tabL (oneJ N D) n 0) (tabL (zeroJ N D) n 0) from ⟨g1, g2, rfl, rfl, h3, h4, h5, by rw [← made_bools]; exact h1, by rw [← made_bools]; exact h2⟩)
    have M1 : ∀ W, (Instr.makeSlice 111 (.int .i64 ((n : Int) + 1)) (.int .i64 ((n : Int) + 1))).run Tryz.prog W = .ok (.slice (some ⟨W.heap.size, 0, none⟩) (n + 1) (n + 1)) (W.alloc (.cells (madeCells #[.bool false] (n + 1)) 4)) := fun W => (hM W).out
    clear hM
    go_region
    all_goals
      go_wp2_with fail
      go_meet
      first
        | exact ⟨(X w1.heap.size (w1.heap.size + 1) _ ((Blk.new w1 _ _).alloc _) (Blk.made _ _ _ (by simp)) (by omega) B1.out.size (by have := B1.out.size; omega)).out, (((B1.out.alloc B1.out.size _).alloc (by have := B1.out.size; simp; omega) _)).drew⟩
        | exact ⟨(X (w1.heap.size + 1) w1.heap.size _ (Blk.made _ _ _ (by simp)) ((Blk.new w1 _ _).alloc _) (by omega) (by have := B1.out.size; omega) B1.out.size).out, (((B1.out.alloc B1.out.size _).alloc (by have := B1.out.size; simp; omega) _)).drew⟩
  case rest =>
    obtain ⟨⟨g1, g2, rfl, rfl, h3, h4, h5, hb1, hb2⟩, hB⟩ := hcut
    have G1 := hid hb1; have G2 := hid hb2; have B2 := hid hB; have H3 := hid h3; have H4 := hid h4; have H5 := hid h5
    have k0 : wc.cell? ⟨g2, 0, none⟩ = some (.bool false) := by
      refine (hb2.cell 0).trans ?_
      rw [List.getElem?_toArray, tabL_get (Nat.zero_le _)]; simp
    have k1 := hb2.free 0
    have z0 : (0 : Int) < ((n + 1 : Nat) : Int) := by omega
    have z1 : (0 : Int) < (n : Int) + 1 := by omega
    obtain ⟨z, hz⟩ : ∃ z, (sN.toList == [48]) = z := ⟨_, rfl⟩
    have HZ : Hid (z = decide (N = 0)) := by
      show z = decide (N = 0)
      rw [← hz]
      by_cases h0 : N = 0
      · rw [← HSN.out, h0, numB_zero, lit_zero]; simp
      · rw [← HSN.out, ne_lit (l := [48]) (by rw [← numB_zero]; exact numB_ne h0)]
        simp [h0]
    clear hb1 hb2 hB hM h3 h4 h5
    go_wp2_with fail
    obtain ⟨W3, hW3⟩ : ∃ W, wc.setCell ⟨g2, 0, none⟩ (.bool z) = W := ⟨_, rfl⟩
    have G3 : Blk W3 g1 (tabL (oneJ N D) n 1).toArray 4 := by
      rw [← hW3, tabL_skip (f := oneJ N D) (j := 0) rfl]
      exact G1.out.other (fun e => H3.out e.symm) _
    have G4 : Blk W3 g2 (tabL (zeroJ N D) n 1).toArray 4 := by
      have h := G2.out.set 0 (.bool z)
      rw [hW3, List.setIfInBounds_toArray, HZ.out] at h
      have h2 := tabL_set (f := zeroJ N D) (n := n) (j := 0) (Nat.zero_le _)
      rw [← h2]
      exact h
    have B3 : Below w.heap.size w W3 := by rw [← hW3]; exact B2.out.setCell H5.out _
    rw [hW3]
    have HG3 := hid G3; have HG4 := hid G4; have HB3 := hid B3
    have e0 : Hid ((!z) = (sdx N D 0).2) := by show (!z) = _; rw [HZ.out]; simp [sdx]
    clear k0 k1 hz z0 z1 G3 G4 B3 hW3 G1 G2 B2 B1
    go_loopw [9, 10, 11] (fun o x j wr => ∃ i : Nat, j = .int .i64 ((i + 1 : Nat) : Int) ∧ i ≤ n ∧ o = .bool (sdx N D i).2 ∧ x = .string (numB (sdx N D i).1) ∧ Hid (Blk wr g1 (tabL (oneJ N D) n (i + 1)).toArray 4) ∧ Hid (Blk wr g2 (tabL (zeroJ N D) n (i + 1)).toArray 4) ∧ Hid (Below w.heap.size w wr)) (fun o x j wr => n + 1 - (intOf j).toNat)
    case atStart => exact ⟨0, rfl, Nat.zero_le _, by rw [e0.out], by rw [HSN.out.symm]; rfl, HG3.out, HG4.out, HB3.out⟩
    case round =>
      obtain ⟨i, rfl, hi, rfl, rfl, hg1, hg2, hB⟩ := hrel
      cases ho : (sdx N D i).2
      · have GG1 : Blk wr g1 (allB (oneJ N D) n).toArray 4 := by
          rw [← tabL_full (oneJ N D) n (j := n + 1) (by omega), tabL_shut (j := i + 1) (fun k hk => oneJ_shut ho k (by omega)) (n + 1) (by omega)]
          exact hg1.out
        have GG2 : Blk wr g2 (allB (zeroJ N D) n).toArray 4 := by
          rw [← tabL_full (zeroJ N D) n (j := n + 1) (by omega), tabL_shut (j := i + 1) (fun k hk => zeroJ_shut ho k (by omega)) (n + 1) (by omega)]
          exact hg2.out
        have GG1 := hid GG1; have GG2 := hid GG2
        clear ho hi
        go_wp2_with fail
        all_goals
          go_ret2
          exact ⟨⟨_, _, rfl, ⟨g1, g2, rfl, rfl, H3.out, H4.out, H5.out, GG1.out, GG2.out⟩⟩, hB.out⟩
      · by_cases hlt : i + 1 ≤ n
        · obtain ⟨X, hX⟩ : ∃ X, (sdx N D i).1 = X := ⟨_, rfl⟩
          have hXD : X < D := hX ▸ sdx_lt HND.out i
          have hs : sdx N D (i + 1) = if D ≤ 2 * X then (2 * X - D, decide (2 * X ≠ D)) else (2 * X, true) := by rw [sdx, if_pos ho, hX]
          have h1 : oneJ N D (i + 1) = decide (D ≤ 2 * X) := by rw [oneJ, ho, hX]; rfl
          have h0 : zeroJ N D (i + 1) = decide (2 * X ≤ D) := by rw [zeroJ, ho, hX]; rfl
          have p10 : (10 : Nat) ^ (eN + 1) = 10 * 10 ^ eN := by rw [Nat.pow_succ, Nat.mul_comm]
          have q10 := C4.out
          have d1 : nDigits X ≤ 4000 := DN.out X (by omega)
          have d2 : nDigits (X + X) ≤ 4000 := DN.out _ (by omega)
          have d3 : nDigits D ≤ 4000 := DN.out _ (by omega)
          have HPL := fun V hV => hid (p_plus V X X d1 d1 d2 hV)
          have HCM := fun V => hid (p_cmp V (X + X) D d2 d3)
          rw [HSD.out] at HCM
          rw [hX]
          have k1 : wr.cell? ⟨g1, i + 1, none⟩ = some (.bool false) := by
            refine (hg1.out.cell (i + 1)).trans ?_
            rw [List.getElem?_toArray, tabL_get hlt]; simp
          have k2 : wr.cell? ⟨g2, i + 1, none⟩ = some (.bool false) := by
            refine (hg2.out.cell (i + 1)).trans ?_
            rw [List.getElem?_toArray, tabL_get hlt]; simp
          have f0 : (0 : Int) ≤ ((i + 1 : Nat) : Int) := by omega
          have f1 : ((i + 1 : Nat) : Int) < ((n + 1 : Nat) : Int) := by omega
          have f2 : decide (((i + 1 : Nat) : Int) ≤ (n : Int)) = true := by simp; omega
          have f3 : ((i + 1 : Nat) : Int) ≤ 1000 := by have := HN.out; omega
          have f4 : (i : Int) ≤ 1000 := by have := HN.out; omega
          have HLT := hid hlt
          rcases Nat.lt_trichotomy (X + X) D with hc | hc | hc
          · rw [ordN_lt hc] at HCM
            have HS := hid (show sdx N D (i + 1) = (X + X, true) from by rw [hs, if_neg (by omega), Nat.two_mul])
            have T1 := hid (tabL_skip (n := n) (show oneJ N D (i + 1) = false from by rw [h1]; simp; omega))
            have T0 := hid (tabL_set (f := zeroJ N D) hlt)
            have HZ0 := hid (show zeroJ N D (i + 1) = true from by rw [h0]; simp; omega)
            clear hc hs h1 h0 p10 q10 d1 d2 d3 hX hXD ho hi
            go_wp2_with fail
            refine (HPL _ (HL.out.below hB.out HLL.out)).out.mono ?_; rintro e w5 ⟨rfl, hb5⟩
            have G15 := hid (hg1.out.call hb5); have G25 := hid (hg2.out.call hb5); have B5 := hid (hB.out.trans (hb5.mono hB.out.size))
            clear hb5
            go_wp2_with fail
            refine (HCM _).out.mono ?_; rintro e w6 ⟨rfl, hb6⟩
            have G16 := hid (G15.out.call hb6); have G26 := hid (G25.out.call hb6); have B6 := hid (B5.out.trans (hb6.mono B5.out.size))
            have m1 : w6.cell? ⟨g1, i + 1, none⟩ = some (.bool false) := by
              refine (G16.out.cell (i + 1)).trans ?_
              rw [List.getElem?_toArray, tabL_get hlt]; simp
            have m2 : w6.cell? ⟨g2, i + 1, none⟩ = some (.bool false) := by
              refine (G26.out.cell (i + 1)).trans ?_
              rw [List.getElem?_toArray, tabL_get hlt]; simp
            have m3 := G16.out.free (i + 1)
            have m4 := G26.out.free (i + 1)
            clear hb6 hlt k1 k2
            go_wp2_with fail
            go_roundw
            case rel =>
              refine ⟨i + 1, by go_num, HLT.out, by rw [HS.out], by rw [HS.out], ?_, ?_, B6.out.setCell H5.out _⟩
              · show Blk _ _ _ _
                rw [T1.out]
                exact G16.out.other (fun e => H3.out e.symm) _
              · show Blk _ _ _ _
                rw [← T0.out, HZ0.out]
                have h := G26.out.set (i + 1) (.bool true)
                rw [List.setIfInBounds_toArray] at h
                exact h
            case measure => simp [intOf] <;> (have := HLT.out; omega)
          · rw [show ordN (X + X) D = 0 from by rw [hc, ordN_eq]] at HCM
            have hle : D ≤ X + X := by omega
            have HSU := fun V hV => hid (p_sub V (X + X) D d2 d3 hle hV)
            rw [HSD.out] at HSU
            have HS := hid (show sdx N D (i + 1) = (X + X - D, false) from by rw [hs, if_pos (by omega), Nat.two_mul]; simp; omega)
            have T1 := hid (tabL_set (f := oneJ N D) hlt)
            have HZ1 := hid (show oneJ N D (i + 1) = true from by rw [h1]; simp; omega)
            have T0 := hid (tabL_set (f := zeroJ N D) hlt)
            have HZ0 := hid (show zeroJ N D (i + 1) = true from by rw [h0]; simp; omega)
            clear hc hs h1 h0 p10 q10 d1 d2 d3 hX hXD ho hi hle
            go_wp2_with fail
            refine (HPL _ (HL.out.below hB.out HLL.out)).out.mono ?_; rintro e w5 ⟨rfl, hb5⟩
            have G15 := hid (hg1.out.call hb5); have G25 := hid (hg2.out.call hb5); have B5 := hid (hB.out.trans (hb5.mono hB.out.size))
            clear hb5
            go_wp2_with fail
            refine (HCM _).out.mono ?_; rintro e w6 ⟨rfl, hb6⟩
            have G16 := hid (G15.out.call hb6); have G26 := hid (G25.out.call hb6); have B6 := hid (B5.out.trans (hb6.mono B5.out.size))
            have m1 : w6.cell? ⟨g1, i + 1, none⟩ = some (.bool false) := by
              refine (G16.out.cell (i + 1)).trans ?_
              rw [List.getElem?_toArray, tabL_get hlt]; simp
            have m2 : w6.cell? ⟨g2, i + 1, none⟩ = some (.bool false) := by
              refine (G26.out.cell (i + 1)).trans ?_
              rw [List.getElem?_toArray, tabL_get hlt]; simp
            have m3 := G16.out.free (i + 1)
            have m4 := G26.out.free (i + 1)
            clear hb6 hlt k1 k2
            go_wp2_with fail
            refine (HSU _ (HL.out.below B6.out HLL.out)).out.mono ?_; rintro e w7 ⟨rfl, hb7⟩
            have G17 := hid (G16.out.call hb7); have G27 := hid (G26.out.call hb7); have B7 := hid (B6.out.trans (hb7.mono B6.out.size))
            have n1 := (hb7.cell (cell_lt m1)).trans m1
            have n3 := G17.out.free (i + 1)
            have n2 : (w7.setCell ⟨g1, i + 1, none⟩ (.bool true)).cell? ⟨g2, i + 1, none⟩ = some (.bool false) := ((G27.out.other (fun e => H3.out e) (.bool true)).cell (i + 1)).trans (by rw [List.getElem?_toArray, tabL_get HLT.out]; simp)
            have n4 : (w7.setCell ⟨g1, i + 1, none⟩ (.bool true)).frozen? ⟨g2, i + 1, none⟩ = false := (G27.out.other (a := ⟨g1, i + 1, none⟩) (fun e => H3.out e) (.bool true)).free (i + 1)
            clear hb7 m1 m2 m3 m4
            go_wp2_with fail
            go_roundw
            case rel =>
              refine ⟨i + 1, by go_num, HLT.out, by rw [HS.out], by rw [HS.out], ?_, ?_, ((B7.out.setCell H4.out _).setCell H5.out _)⟩
              · show Blk _ _ _ _
                rw [← T1.out, HZ1.out]
                have h := (G17.out.set (i + 1) (.bool true)).other (a := ⟨g2, i + 1, none⟩) (fun e => H3.out e.symm) (.bool true)
                rw [List.setIfInBounds_toArray] at h
                exact h
              · show Blk _ _ _ _
                rw [← T0.out, HZ0.out]
                have h := (G27.out.other (a := ⟨g1, i + 1, none⟩) (fun e => H3.out e) (.bool true)).set (i + 1) (.bool true)
                rw [List.setIfInBounds_toArray] at h
                exact h
            case measure => simp [intOf] <;> (have := HLT.out; omega)
          · rw [ordN_gt hc] at HCM
            have hle : D ≤ X + X := by omega
            have HSU := fun V hV => hid (p_sub V (X + X) D d2 d3 hle hV)
            rw [HSD.out] at HSU
            have HS := hid (show sdx N D (i + 1) = (X + X - D, true) from by rw [hs, if_pos (by omega), Nat.two_mul]; simp; omega)
            have T1 := hid (tabL_set (f := oneJ N D) hlt)
            have HZ1 := hid (show oneJ N D (i + 1) = true from by rw [h1]; simp; omega)
            have T0 := hid (tabL_set (f := zeroJ N D) hlt)
            have HZ0 := hid (show zeroJ N D (i + 1) = false from by rw [h0]; simp; omega)
            clear hc hs h1 h0 p10 q10 d1 d2 d3 hX hXD ho hi hle
            go_wp2_with fail
            refine (HPL _ (HL.out.below hB.out HLL.out)).out.mono ?_; rintro e w5 ⟨rfl, hb5⟩
            have G15 := hid (hg1.out.call hb5); have G25 := hid (hg2.out.call hb5); have B5 := hid (hB.out.trans (hb5.mono hB.out.size))
            clear hb5
            go_wp2_with fail
            refine (HCM _).out.mono ?_; rintro e w6 ⟨rfl, hb6⟩
            have G16 := hid (G15.out.call hb6); have G26 := hid (G25.out.call hb6); have B6 := hid (B5.out.trans (hb6.mono B5.out.size))
            have m1 : w6.cell? ⟨g1, i + 1, none⟩ = some (.bool false) := by
              refine (G16.out.cell (i + 1)).trans ?_
              rw [List.getElem?_toArray, tabL_get hlt]; simp
            have m2 : w6.cell? ⟨g2, i + 1, none⟩ = some (.bool false) := by
              refine (G26.out.cell (i + 1)).trans ?_
              rw [List.getElem?_toArray, tabL_get hlt]; simp
            have m3 := G16.out.free (i + 1)
            have m4 := G26.out.free (i + 1)
            clear hb6 hlt k1 k2
            go_wp2_with fail
            refine (HSU _ (HL.out.below B6.out HLL.out)).out.mono ?_; rintro e w7 ⟨rfl, hb7⟩
            have G17 := hid (G16.out.call hb7); have G27 := hid (G26.out.call hb7); have B7 := hid (B6.out.trans (hb7.mono B6.out.size))
            have n1 := (hb7.cell (cell_lt m1)).trans m1
            have n3 := G17.out.free (i + 1)
            have n2 : (w7.setCell ⟨g1, i + 1, none⟩ (.bool true)).cell? ⟨g2, i + 1, none⟩ = some (.bool false) := ((G27.out.other (fun e => H3.out e) (.bool true)).cell (i + 1)).trans (by rw [List.getElem?_toArray, tabL_get HLT.out]; simp)
            have n4 : (w7.setCell ⟨g1, i + 1, none⟩ (.bool true)).frozen? ⟨g2, i + 1, none⟩ = false := (G27.out.other (a := ⟨g1, i + 1, none⟩) (fun e => H3.out e) (.bool true)).free (i + 1)
            clear hb7 m1 m2 m3 m4
            go_wp2_with fail
            go_roundw
            case rel =>
              refine ⟨i + 1, by go_num, HLT.out, by rw [HS.out], by rw [HS.out], ?_, ?_, ((B7.out.setCell H4.out _).setCell H5.out _)⟩
              · show Blk _ _ _ _
                rw [← T1.out, HZ1.out]
                have h := (G17.out.set (i + 1) (.bool true)).other (a := ⟨g2, i + 1, none⟩) (fun e => H3.out e.symm) (.bool false)
                rw [List.setIfInBounds_toArray] at h
                exact h
              · show Blk _ _ _ _
                rw [← T0.out, HZ0.out]
                have h := (G27.out.other (a := ⟨g1, i + 1, none⟩) (fun e => H3.out e) (.bool true)).set (i + 1) (.bool false)
                rw [List.setIfInBounds_toArray] at h
                exact h
            case measure => simp [intOf] <;> (have := HLT.out; omega)
        · have e1 : i = n := by omega
          subst e1
          have f2 : decide (((i + 1 : Nat) : Int) ≤ (i : Int)) = false := by simp; omega
          have GG1 : Blk wr g1 (allB (oneJ N D) i).toArray 4 := by
            rw [← tabL_full (oneJ N D) i (j := i + 1) (by omega)]
            exact hg1.out
          have GG2 : Blk wr g2 (allB (zeroJ N D) i).toArray 4 := by
            rw [← tabL_full (zeroJ N D) i (j := i + 1) (by omega)]
            exact hg2.out
          have GG1 := hid GG1; have GG2 := hid GG2
          clear ho hi hlt
          go_wp2_with fail
          go_ret2
          exact ⟨⟨_, _, rfl, ⟨g1, g2, rfl, rfl, H3.out, H4.out, H5.out, GG1.out, GG2.out⟩⟩, hB.out⟩
end Go.Proofs.YtccalhlhdiapiaaGreatDoor
namespace Go.Proofs.YtccalhlhdiapiaaGreatDoor
open Go.RowKit
open Go.Lib (decDigits nDigits)
set_option linter.unusedVariables false
set_option linter.unusedSimpArgs false
/-- Rows of numbers' texts. -/
def NRowT (w : World) (g : Nat) (l : List Nat) : Prop := Blk w g (numL l).toArray 22
theorem NRowT.cell {w : World} {g : Nat} {l : List Nat} (h : NRowT w g l) {i : Nat} (hi : i < l.length) : w.cell? ⟨g, i, none⟩ = some (.string (numB (l.getD i 0))) := by
  refine (Blk.cell h i).trans ?_
  rw [List.getElem?_toArray, numL_get hi]
theorem NRowT.free {w : World} {g : Nat} {l : List Nat} (h : NRowT w g l) (i : Nat) : w.frozen? ⟨g, i, none⟩ = false := Blk.free h i
theorem NRowT.set {w : World} {g : Nat} {l : List Nat} (h : NRowT w g l) (i x : Nat) : NRowT (w.setCell ⟨g, i, none⟩ (.string (numB x))) g (l.set i x) := by
  have := Blk.set h i (.string (numB x))
  rw [List.setIfInBounds_toArray, numL_set] at this
  exact this
theorem NRowT.call {w w' : World} {g : Nat} {l : List Nat} (h : NRowT w g l) (hb : Below w.heap.size w w') : NRowT w' g l := Blk.call h hb
theorem NRowT.other {w : World} {g : Nat} {l : List Nat} (h : NRowT w g l) {a : Addr} (ha : a.block ≠ g) (v : Value) : NRowT (w.setCell a v) g l := Blk.other h ha v
theorem NRowT.zeros {w : World} {g n : Nat} (h : Blk w g (strsR (List.replicate n ⟨#[48]⟩)).toArray 22) : NRowT w g (List.replicate n 0) := by
  have e : numL (List.replicate n 0) = strsR (List.replicate n ⟨#[48]⟩) := by
    unfold numL strsR
    rw [List.map_replicate, List.map_replicate, numB_zero]
  unfold NRowT
  rw [e]; exact h
/-- What totals gives back. -/
def TotOut (w : World) (n N D : Nat) (e : Ending) (w' : World) : Prop := ∃ g, e = .returned (.slice (some ⟨g, 0, none⟩) (n + 1) (n + 1)) ∧ w.heap.size ≤ g ∧ NRowT w' g (tOut (oneJ N D) (zeroJ N D) n (n + 1)).2
set_option maxRecDepth 100000 in
set_option maxHeartbeats 8000000 in
theorem g_totals (w : World) (a : ByteArray) (n N D : Nat) (ha : a.size ≤ 100000) (he : gPE a = 0) (hn : n ≤ 1000) (hN : bN (cW a) = N) (hD : bN (qD a) = D) (hND : N < D) (hL : Lay w) :
    Calls Tryz.prog 59 #[.string a, .int .i64 n] w fun e w' => TotOut w n N D e w' ∧ Below w.heap.size w w' := by
  have HS := hid (g_sides w a n N D ha he hn hN hD hND hL)
  have HR := fun V g h => hid (s_Repeat V g (n + 1) ⟨#[48]⟩ (by omega) (by omega) h)
  have HL := hid hL; have HLL := hid hL.lt; have HN := hid hn
  have wn : IntKind.i64.wrap ((n : Int) + 1) = ((n + 1 : Nat) : Int) := by rw [IntWalk.i64_in _ ⟨by omega, by omega⟩]; omega
  have h00 := hid (show oneJ N D 0 = false from rfl)
  obtain ⟨os, hos⟩ : ∃ f, oneJ N D = f := ⟨_, rfl⟩
  obtain ⟨zs, hzs⟩ : ∃ f, zeroJ N D = f := ⟨_, rfl⟩
  have HOS := hid hos; have HZS := hid hzs
  rw [hos] at h00
  clear ha he hn hN hD hND hL hos hzs
  go_enter Tryz.func59, Tryz.ntmps59
  go_wp2_with fail
  refine HS.out.mono ?_; rintro e w1 ⟨⟨v1, v2, rfl, ⟨g1, g2, rfl, rfl, h3, h4, h5, hg1, hg2⟩⟩, hb1⟩
  rw [HOS.out] at hg1
  rw [HZS.out] at hg2
  have G1 := hid hg1; have G2 := hid hg2; have B1 := hid hb1; have K1 := hid h4; have K2 := hid h5
  clear hg1 hg2 hb1 h3 h4 h5 HS
  go_wp2_with fail
  refine (HR _ _ ((Blk.new w1 _ _).cell 0)).out.mono ?_; rintro e w2 ⟨rfl, hg7, hb2⟩
  obtain ⟨g7, h7⟩ : ∃ g, (w1.alloc (.cells #[.string ⟨#[48]⟩] 22)).heap.size = g := ⟨_, rfl⟩
  rw [h7] at hg7 ⊢
  have R7 := hid (NRowT.zeros hg7)
  have a1 := (Below.refl w1.heap.size w1).alloc (Nat.le_refl _) (.cells #[.string ⟨#[48]⟩] 22)
  have b2 := hid (bnext a1 hb2)
  have K7 := hid (show w1.heap.size < g7 by rw [← h7]; simp)
  have B2 := hid (B1.out.trans (b2.out.mono B1.out.size)); have G12 := hid (G1.out.call b2.out); have G22 := hid (G2.out.call b2.out)
  have L7 := hid (show g7 < w2.heap.size from Blk.lt hg7)
  clear hg7 hb2 a1 h7
  go_wp2_with fail
  refine (HR _ _ ((Blk.new w2 _ _).cell 0)).out.mono ?_; rintro e w3 ⟨rfl, hg8, hb3⟩
  obtain ⟨g8, h8⟩ : ∃ g, (w2.alloc (.cells #[.string ⟨#[48]⟩] 22)).heap.size = g := ⟨_, rfl⟩
  rw [h8] at hg8 ⊢
  have R8 := hid (NRowT.zeros hg8)
  have a2 := (Below.refl w2.heap.size w2).alloc (Nat.le_refl _) (.cells #[.string ⟨#[48]⟩] 22)
  have b3 := hid (bnext a2 hb3)
  have K8 := hid (show w2.heap.size < g8 by rw [← h8]; simp)
  have B3 := hid (B2.out.trans (b3.out.mono B2.out.size)); have G13 := hid (G12.out.call b3.out); have G23 := hid (G22.out.call b3.out); have R73 := hid (R7.out.call b3.out)
  have N1 := hid (show g1 < w1.heap.size from Blk.lt G1.out); have N2 := hid (show g2 < w1.heap.size from Blk.lt G2.out)
  have z12 := hid b2.out.size; have zw1 := hid B1.out.size
  clear hg8 hb3 a2 h8 HR
  have k0 : w3.cell? ⟨g7, 0, none⟩ = some (.string ⟨#[48]⟩) := by
    refine (R73.out.cell (i := 0) (by simp)).trans ?_
    rw [← numB_zero]; simp [List.getD_eq_getElem?_getD]
  have k1 := R73.out.free 0
  have z0 : (0 : Int) < ((n + 1 : Nat) : Int) := by omega
  have z1 : (0 : Int) < (n : Int) + 1 := by omega
  go_wp2_with fail
  have X7 : Hid (7 = 7) := rfl
  have hne : g7 ≠ g8 := by have := L7.out; have := K8.out; omega
  obtain ⟨W3, hW3⟩ : ∃ W, w3.setCell ⟨g7, 0, none⟩ (.string ⟨#[49]⟩) = W := ⟨_, rfl⟩
  have S7 : NRowT W3 g7 (tOut os zs n 0).1 := by
    rw [← hW3, ← numB_one]
    have h := R73.out.set 0 1
    rw [show (List.replicate (n + 1) 0).set 0 1 = 1 :: List.replicate n 0 by rw [List.replicate_succ]; rfl] at h
    exact h
  have S8 : NRowT W3 g8 (tOut os zs n 0).2 := by rw [← hW3]; exact R8.out.other hne _
  have S1 : Blk W3 g1 (allB os n).toArray 4 := by rw [← hW3]; exact G13.out.other (by have := K7.out; have := N1.out; simp; omega) _
  have S2 : Blk W3 g2 (allB zs n).toArray 4 := by rw [← hW3]; exact G23.out.other (by have := K7.out; have := N2.out; simp; omega) _
  have SB : Below w.heap.size w W3 := by rw [← hW3]; exact B3.out.setCell (by have := K7.out; have := zw1.out; simp; omega) _
  rw [hW3]
  have T7 := hid S7; have T8 := hid S8; have T1 := hid S1; have T2 := hid S2; have TBl := hid SB; have NE := hid hne
  have Q7 := hid (show w.heap.size ≤ g7 by have := K7.out; have := zw1.out; omega); have Q8 := hid (show w.heap.size ≤ g8 by have := K7.out; have := K8.out; have := L7.out; have := zw1.out; omega)
  have M17 := hid (show g1 ≠ g7 by have := K7.out; have := N1.out; omega); have M18 := hid (show g1 ≠ g8 by have := K7.out; have := K8.out; have := L7.out; have := N1.out; omega)
  have M27 := hid (show g2 ≠ g7 by have := K7.out; have := N2.out; omega); have M28 := hid (show g2 ≠ g8 by have := K7.out; have := K8.out; have := L7.out; have := N2.out; omega)
  clear k0 k1 z0 z1 S7 S8 S1 S2 SB hne hW3 X7 R73 R8 G13 G23 B3 b3 R7 G12 G22 B2 b2 G1 G2 B1 K7 K8 L7 z12 zw1 N1 N2
  go_loopw [29] (fun ii wr => ∃ i : Nat, ii = .int .i64 (i : Nat) ∧ i ≤ n + 1 ∧ Hid (NRowT wr g7 (tOut os zs n i).1) ∧ Hid (NRowT wr g8 (tOut os zs n i).2) ∧ Hid (Blk wr g1 (allB os n).toArray 4) ∧ Hid (Blk wr g2 (allB zs n).toArray 4) ∧ Hid (Below w.heap.size w wr)) (fun ii wr => n + 1 - (intOf ii).toNat)
  case atStart => exact ⟨0, rfl, Nat.zero_le _, T7.out, T8.out, T1.out, T2.out, TBl.out⟩
  case round =>
    obtain ⟨i, rfl, hi, hg7, hg8, hg1, hg2, hB⟩ := hrel
    by_cases hlt : i < n + 1
    · have q0 : decide ((i : Int) < ((n + 1 : Nat) : Int)) = true := by simp; omega
      have f0 : (0 : Int) ≤ (i : Int) := by omega
      have f1 : (i : Int) < ((n + 1 : Nat) : Int) := by omega
      have f2 : (i : Int) ≤ 1000 := by have := HN.out; omega
      have IL := hid hlt
      have TBI := hid (TB.outer (os := os) (zs := zs) h00.out n i hi)
      clear hi hlt
      go_wp2_with fail
      obtain ⟨x, hx⟩ : ∃ x, (tOut os zs n i).1.getD i 0 = x := ⟨_, rfl⟩
      obtain ⟨wo, rfl⟩ : ∃ wo : World, wo = wr := ⟨_, rfl⟩
      by_cases hx0 : x = 0
      · have k0 : wo.cell? ⟨g7, i, none⟩ = some (.string (numB x)) := by rw [← hx]; exact hg7.out.cell (by rw [TBI.out.l1]; exact IL.out)
        have q1 : ((numB x).toList == [48]) = true := by rw [hx0, numB_zero]; exact lit_zero
        have hnext := hid (show tOut os zs n (i + 1) = tOut os zs n i from by rw [tOut, if_pos (by rw [hx]; exact hx0)])
        obtain ⟨sx, hsx⟩ : ∃ s, numB x = s := ⟨_, rfl⟩
        rw [hsx] at k0 q1
        clear hx hx0 hsx
        go_loopw [10] (fun jj wq => jj = .int .i64 0 ∧ wq = wo) (fun jj wq => 0)
        case atStart => exact ⟨rfl, rfl⟩
        case round =>
          obtain ⟨rfl, rfl⟩ := hrel
          go_wp2_with fail
          go_roundw
          case rel => exact ⟨i + 1, by go_num, by have := IL.out; omega, by rw [hnext.out]; exact hg7, by rw [hnext.out]; exact hg8, hg1, hg2, hB⟩
          case measure => simp [intOf] <;> (have := IL.out; omega)
      · have q1 : ((numB x).toList == [48]) = false := ne_lit (l := [48]) (by rw [← numB_zero]; exact numB_ne hx0)
        have hnext := hid (show tOut os zs n (i + 1) = tIn os zs i (n + 1 - i) (tOut os zs n i) from by rw [tOut, if_neg (by rw [hx]; exact hx0)])
        obtain ⟨s0, hs0⟩ : ∃ s, tOut os zs n i = s := ⟨_, rfl⟩
        rw [hs0] at hx hg7 hg8 hnext TBI
        have HX := hid hx
        obtain ⟨sx, hsx⟩ : ∃ s, numB x = s := ⟨_, rfl⟩
        rw [hsx] at q1
        have HSX := hid hsx
        clear hx hx0 hsx hs0
        have d30 : decide ((i : Int) < (n : Int) + 1) = true := by have := IL.out; simp; omega
        rw [d30]
        clear d30
        go_loopw [10] (fun jj wq => ∃ j : Nat, jj = .int .i64 (j : Nat) ∧ i + j ≤ n + 1 ∧ Hid (NRowT wq g7 (tIn os zs i j s0).1) ∧ Hid (NRowT wq g8 (tIn os zs i j s0).2) ∧ Hid (Blk wq g1 (allB os n).toArray 4) ∧ Hid (Blk wq g2 (allB zs n).toArray 4) ∧ Hid (Below w.heap.size w wq)) (fun jj wq => n + 1 - (intOf jj).toNat)
        case atStart => exact ⟨0, rfl, by have := IL.out; omega, hg7, hg8, hg1, hg2, hB⟩
        case round =>
          clear hg7 hg8 hg1 hg2 hB
          obtain ⟨j, rfl, hj, hg7, hg8, hg1, hg2, hB⟩ := hrel
          have TBJ := hid (TB.inner (os := os) (zs := zs) h00.out TBI.out j hj)
          have k0 : wr.cell? ⟨g7, i, none⟩ = some (.string sx) := by
            refine (hg7.out.cell (by rw [TBJ.out.1.l1]; exact IL.out)).trans ?_
            rw [TBJ.out.2, HX.out, HSX.out]
          by_cases hlt : i + j ≤ n
          · have q2 : decide ((i : Int) + (j : Int) ≤ (n : Int)) = true := by simp; omega
            have f5 : (0 : Int) ≤ (j : Int) := by omega
            have f6 : (j : Int) < ((n + 1 : Nat) : Int) := by omega
            have f7 : (j : Int) ≤ 1000 := by have := HN.out; omega
            have f8 : (i : Int) + (j : Int) < ((n + 1 : Nat) : Int) := by omega
            have f9 : (i : Int) + (j : Int) < (n : Int) + 1 := by omega
            have f10 : (0 : Int) ≤ (i : Int) + (j : Int) := by omega
            have c1 : wr.cell? ⟨g1, j, none⟩ = some (.bool (os j)) := (hg1.out.cell j).trans (by rw [List.getElem?_toArray, allB_get (by omega)])
            have c2 : wr.cell? ⟨g2, j, none⟩ = some (.bool (zs j)) := (hg2.out.cell j).trans (by rw [List.getElem?_toArray, allB_get (by omega)])
            have HLT := hid hlt
            obtain ⟨zj, hzj⟩ : ∃ b, zs j = b := ⟨_, rfl⟩
            obtain ⟨oj, hoj⟩ : ∃ b, os j = b := ⟨_, rfl⟩
            rw [hoj] at c1
            rw [hzj] at c2
            have HZJ := hid hzj; have HOJ := hid hoj
            clear hlt hj hzj hoj
            obtain ⟨y1, hy1⟩ : ∃ y, (tIn os zs i j s0).2.getD (i + j) 0 = y := ⟨_, rfl⟩
            obtain ⟨y2, hy2⟩ : ∃ y, (tIn os zs i j s0).1.getD (i + j) 0 = y := ⟨_, rfl⟩
            have p2 : 2 ^ (i + 1) = 2 ^ i + 2 ^ i := by rw [Nat.pow_succ]; omega
            have hxb : x ≤ 2 ^ i := by rw [← HX.out]; exact TBI.out.src
            have hy1b : y1 ≤ 2 ^ i := hy1 ▸ TBJ.out.1.hi2 _ (Nat.le_refl _)
            have hy2b : y2 ≤ 2 ^ i := hy2 ▸ TBJ.out.1.hi1 _ (Nat.le_refl _)
            have i1000 : i ≤ 1000 := by have := IL.out; have := HN.out; omega
            have dx := two_pow_digits hxb (by omega)
            have P1 := fun V hV => hid (p_plus V y1 x (two_pow_digits hy1b (by omega)) dx (two_pow_digits (i := i + 1) (by omega) (by omega)) hV)
            have P2 := fun V hV => hid (p_plus V y2 x (two_pow_digits hy2b (by omega)) dx (two_pow_digits (i := i + 1) (by omega) (by omega)) hV)
            have t1 : wr.cell? ⟨g8, i + j, none⟩ = some (.string (numB y1)) := by rw [← hy1]; exact hg8.out.cell (by rw [TBJ.out.1.l2]; have := HLT.out; omega)
            have t2 : wr.cell? ⟨g7, i + j, none⟩ = some (.string (numB y2)) := by rw [← hy2]; exact hg7.out.cell (by rw [TBJ.out.1.l1]; have := HLT.out; omega)
            rw [HSX.out] at P1 P2
            obtain ⟨u1, hu1⟩ : ∃ s, numB y1 = s := ⟨_, rfl⟩
            obtain ⟨u2, hu2⟩ : ∃ s, numB y2 = s := ⟨_, rfl⟩
            rw [hu1] at P1 t1
            rw [hu2] at P2 t2
            have HY1 := hid hy1; have HY2 := hid hy2; have HU2 := hid hu2
            have hstep := hid (show tIn os zs i (j + 1) s0 = (addAt oj (i + j) x (tIn os zs i j s0).1, addAt zj (i + j) x (tIn os zs i j s0).2) from by rw [tIn, tStep, HOJ.out, HZJ.out, TBJ.out.2, HX.out])
            obtain ⟨m1, hm1⟩ : ∃ s, numB (y1 + x) = s := ⟨_, rfl⟩
            obtain ⟨m2, hm2⟩ : ∃ s, numB (y2 + x) = s := ⟨_, rfl⟩
            rw [hm1] at P1
            rw [hm2] at P2
            have HM1 := hid hm1; have HM2 := hid hm2
            clear hm1 hm2
            clear hy1 hy2 p2 hxb hy1b hy2b i1000 dx hu1 hu2
            cases zj
            · cases oj
              · go_wp2_with fail
                go_roundw
                case rel => exact ⟨j + 1, by go_num, by have := HLT.out; omega, by rw [hstep.out]; exact hg7, by rw [hstep.out]; exact hg8, hg1, hg2, hB⟩
                case measure => simp [intOf] <;> (have := HLT.out; omega)
              · go_wp2_with fail
                have ew : IntKind.i64.wrap ((i : Int) + (j : Int)) = (i : Int) + (j : Int) := by rw [IntWalk.i64_in _ ⟨by omega, by omega⟩]
                have et : ((i : Int) + (j : Int)).toNat = i + j := by omega
                refine held_lasts 15 2 [0, 1, 2, 3, 4, 5, 6, 7, 8, 9, 10, 11, 12, 13] 1 (fun W' => W'.cell? ⟨g7, i + j, none⟩ = some (.string u2) ∧ W'.cell? ⟨g7, i, none⟩ = some (.string sx)) (by kernel_rfl) rfl (by kernel_rfl) (by kernel_rfl) (by kernel_rfl) (by kernel_rfl) ⟨t2, k0⟩ ?_
                iterate 14
                  refine ⟨_, rfl, ?_⟩
                  apply Exists.intro
                  refine ⟨.inl ⟨by rfl, ?_⟩, ?_⟩
                  · (intro W' hW'; obtain ⟨r1, r2⟩ := hW'; go_simp; try (with_reducible rfl))
                  (dsimp only [Act.put]; try simp only [List.setIfInBounds_toArray, List.set_cons_zero, List.set_cons_succ])
                refine held_one (i := 14) (by kernel_rfl) (by rfl) (by rfl) ?_
                go_wp2_with fail
                refine (P2 _ (HL.out.below hB.out.drew HLL.out)).out.mono ?_; rintro e w5 ⟨rfl, hbc⟩
                have Ca := hid (show Below wr.heap.size wr w5 from (Below.refl _ _).drew.trans hbc)
                have E7a := hid (hg7.out.call Ca.out); have E8a := hid (hg8.out.call Ca.out); have E1a := hid (hg1.out.call Ca.out); have E2a := hid (hg2.out.call Ca.out); have EBa := hid (hB.out.trans (Ca.out.mono hB.out.size))
                have tca := (Ca.out.cell (cell_lt t2)).trans t2
                have kca := (Ca.out.cell (cell_lt k0)).trans k0
                clear hbc
                go_wp2_with fail
                refine ⟨⟨tca, kca⟩, ?_⟩
                refine wpAnyH_done (by kernel_rfl) ?_ _
                simp only [Only, ThenL, List.drop_succ_cons, List.drop_zero]
                have fza := E7a.out.free (i + j)
                clear kca
                go_wp2_with fail
                try simp only [Only]
                go_roundw
                case rel =>
                  refine ⟨j + 1, by go_num, by have := HLT.out; omega, ?_, ?_, E1a.out.other (fun e => M17.out e.symm) _, E2a.out.other (fun e => M27.out e.symm) _, EBa.out.setCell Q7.out _⟩
                  · show NRowT _ _ _
                    rw [hstep.out, addAt_true, HY2.out, ← HM2.out]
                    exact E7a.out.set (i + j) (y2 + x)
                  · show NRowT _ _ _
                    rw [hstep.out, addAt_false]
                    exact E8a.out.other (fun e => NE.out e) _
                case measure => simp [intOf] <;> (have := HLT.out; omega)
            · cases oj
              · go_wp2_with fail
                have ew : IntKind.i64.wrap ((i : Int) + (j : Int)) = (i : Int) + (j : Int) := by rw [IntWalk.i64_in _ ⟨by omega, by omega⟩]
                have et : ((i : Int) + (j : Int)).toNat = i + j := by omega
                refine held_lasts 15 2 [0, 1, 2, 3, 4, 5, 6, 7, 8, 9, 10, 11, 12, 13] 1 (fun W' => W'.cell? ⟨g8, i + j, none⟩ = some (.string u1) ∧ W'.cell? ⟨g7, i, none⟩ = some (.string sx)) (by kernel_rfl) rfl (by kernel_rfl) (by kernel_rfl) (by kernel_rfl) (by kernel_rfl) ⟨t1, k0⟩ ?_
                iterate 14
                  refine ⟨_, rfl, ?_⟩
                  apply Exists.intro
                  refine ⟨.inl ⟨by rfl, ?_⟩, ?_⟩
                  · (intro W' hW'; obtain ⟨r1, r2⟩ := hW'; go_simp; try (with_reducible rfl))
                  (dsimp only [Act.put]; try simp only [List.setIfInBounds_toArray, List.set_cons_zero, List.set_cons_succ])
                refine held_one (i := 14) (by kernel_rfl) (by rfl) (by rfl) ?_
                go_wp2_with fail
                refine (P1 _ (HL.out.below hB.out.drew HLL.out)).out.mono ?_; rintro e w5 ⟨rfl, hbc⟩
                have Ca := hid (show Below wr.heap.size wr w5 from (Below.refl _ _).drew.trans hbc)
                have E7a := hid (hg7.out.call Ca.out); have E8a := hid (hg8.out.call Ca.out); have E1a := hid (hg1.out.call Ca.out); have E2a := hid (hg2.out.call Ca.out); have EBa := hid (hB.out.trans (Ca.out.mono hB.out.size))
                have tca := (Ca.out.cell (cell_lt t1)).trans t1
                have kca := (Ca.out.cell (cell_lt k0)).trans k0
                clear hbc
                go_wp2_with fail
                refine ⟨⟨tca, kca⟩, ?_⟩
                refine wpAnyH_done (by kernel_rfl) ?_ _
                simp only [Only, ThenL, List.drop_succ_cons, List.drop_zero]
                have fza := E8a.out.free (i + j)
                have c1s : (w5.setCell ⟨g8, i + j, none⟩ (.string m1)).cell? ⟨g1, j, none⟩ = some (.bool false) := ((E1a.out.other (a := ⟨g8, i + j, none⟩) (fun e => M18.out e.symm) (.string m1)).cell j).trans (by rw [List.getElem?_toArray, allB_get (by have := HLT.out; omega), HOJ.out])
                clear kca
                go_wp2_with fail
                try simp only [Only]
                go_roundw
                case rel =>
                  refine ⟨j + 1, by go_num, by have := HLT.out; omega, ?_, ?_, E1a.out.other (fun e => M18.out e.symm) _, E2a.out.other (fun e => M28.out e.symm) _, EBa.out.setCell Q8.out _⟩
                  · show NRowT _ _ _
                    rw [hstep.out, addAt_false]
                    exact E7a.out.other (fun e => NE.out e.symm) _
                  · show NRowT _ _ _
                    rw [hstep.out, addAt_true, HY1.out, ← HM1.out]
                    exact E8a.out.set (i + j) (y1 + x)
                case measure => simp [intOf] <;> (have := HLT.out; omega)
              · go_wp2_with fail
                have ew : IntKind.i64.wrap ((i : Int) + (j : Int)) = (i : Int) + (j : Int) := by rw [IntWalk.i64_in _ ⟨by omega, by omega⟩]
                have et : ((i : Int) + (j : Int)).toNat = i + j := by omega
                refine held_lasts 15 2 [0, 1, 2, 3, 4, 5, 6, 7, 8, 9, 10, 11, 12, 13] 1 (fun W' => W'.cell? ⟨g8, i + j, none⟩ = some (.string u1) ∧ W'.cell? ⟨g7, i, none⟩ = some (.string sx)) (by kernel_rfl) rfl (by kernel_rfl) (by kernel_rfl) (by kernel_rfl) (by kernel_rfl) ⟨t1, k0⟩ ?_
                iterate 14
                  refine ⟨_, rfl, ?_⟩
                  apply Exists.intro
                  refine ⟨.inl ⟨by rfl, ?_⟩, ?_⟩
                  · (intro W' hW'; obtain ⟨r1, r2⟩ := hW'; go_simp; try (with_reducible rfl))
                  (dsimp only [Act.put]; try simp only [List.setIfInBounds_toArray, List.set_cons_zero, List.set_cons_succ])
                refine held_one (i := 14) (by kernel_rfl) (by rfl) (by rfl) ?_
                go_wp2_with fail
                refine (P1 _ (HL.out.below hB.out.drew HLL.out)).out.mono ?_; rintro e w5 ⟨rfl, hbc⟩
                have Ca := hid (show Below wr.heap.size wr w5 from (Below.refl _ _).drew.trans hbc)
                have E7a := hid (hg7.out.call Ca.out); have E8a := hid (hg8.out.call Ca.out); have E1a := hid (hg1.out.call Ca.out); have E2a := hid (hg2.out.call Ca.out); have EBa := hid (hB.out.trans (Ca.out.mono hB.out.size))
                have tca := (Ca.out.cell (cell_lt t1)).trans t1
                have kca := (Ca.out.cell (cell_lt k0)).trans k0
                clear hbc
                go_wp2_with fail
                refine ⟨⟨tca, kca⟩, ?_⟩
                refine wpAnyH_done (by kernel_rfl) ?_ _
                simp only [Only, ThenL, List.drop_succ_cons, List.drop_zero]
                have fza := E8a.out.free (i + j)
                have c1s : (w5.setCell ⟨g8, i + j, none⟩ (.string m1)).cell? ⟨g1, j, none⟩ = some (.bool true) := ((E1a.out.other (a := ⟨g8, i + j, none⟩) (fun e => M18.out e.symm) (.string m1)).cell j).trans (by rw [List.getElem?_toArray, allB_get (by have := HLT.out; omega), HOJ.out])
                clear kca
                go_wp2_with fail
                try simp only [Only]
                obtain ⟨w6, hw6⟩ : ∃ W, w5.setCell ⟨g8, i + j, none⟩ (.string m1) = W := ⟨_, rfl⟩
                have F7 : Hid (NRowT w6 g7 (tIn os zs i j s0).1) := by rw [← hw6]; exact E7a.out.other (fun e => NE.out e.symm) _
                have F8 : Hid (NRowT w6 g8 ((tIn os zs i j s0).2.set (i + j) (y1 + x))) := by rw [← hw6, ← HM1.out]; exact E8a.out.set (i + j) (y1 + x)
                have F1 : Hid (Blk w6 g1 (allB os n).toArray 4) := by rw [← hw6]; exact E1a.out.other (fun e => M18.out e.symm) _
                have F2 : Hid (Blk w6 g2 (allB zs n).toArray 4) := by rw [← hw6]; exact E2a.out.other (fun e => M28.out e.symm) _
                have FB : Hid (Below w.heap.size w w6) := by rw [← hw6]; exact EBa.out.setCell Q8.out _
                have k6 : w6.cell? ⟨g7, i, none⟩ = some (.string sx) := by
                  refine (F7.out.cell (by rw [TBJ.out.1.l1]; exact IL.out)).trans ?_
                  rw [TBJ.out.2, HX.out, HSX.out]
                have t6 : w6.cell? ⟨g7, i + j, none⟩ = some (.string u2) := by
                  refine (F7.out.cell (by rw [TBJ.out.1.l1]; have := HLT.out; omega)).trans ?_
                  rw [HY2.out, HU2.out]
                rw [hw6]
                clear hw6 c1s fza tca ew t1 t2 k0
                have ew : IntKind.i64.wrap ((i : Int) + (j : Int)) = (i : Int) + (j : Int) := by rw [IntWalk.i64_in _ ⟨by omega, by omega⟩]
                have et : ((i : Int) + (j : Int)).toNat = i + j := by omega
                refine held_lasts 15 2 [0, 1, 2, 3, 4, 5, 6, 7, 8, 9, 10, 11, 12, 13] 1 (fun W' => W'.cell? ⟨g7, i + j, none⟩ = some (.string u2) ∧ W'.cell? ⟨g7, i, none⟩ = some (.string sx)) (by kernel_rfl) rfl (by kernel_rfl) (by kernel_rfl) (by kernel_rfl) (by kernel_rfl) ⟨t6, k6⟩ ?_
                iterate 14
                  refine ⟨_, rfl, ?_⟩
                  apply Exists.intro
                  refine ⟨.inl ⟨by rfl, ?_⟩, ?_⟩
                  · (intro W' hW'; obtain ⟨r1, r2⟩ := hW'; go_simp; try (with_reducible rfl))
                  (dsimp only [Act.put]; try simp only [List.setIfInBounds_toArray, List.set_cons_zero, List.set_cons_succ])
                refine held_one (i := 14) (by kernel_rfl) (by rfl) (by rfl) ?_
                go_wp2_with fail
                refine (P2 _ (HL.out.below FB.out.drew HLL.out)).out.mono ?_; rintro e w7 ⟨rfl, hbc⟩
                have Cb := hid (show Below w6.heap.size w6 w7 from (Below.refl _ _).drew.trans hbc)
                have E7b := hid (F7.out.call Cb.out); have E8b := hid (F8.out.call Cb.out); have E1b := hid (F1.out.call Cb.out); have E2b := hid (F2.out.call Cb.out); have EBb := hid (FB.out.trans (Cb.out.mono FB.out.size))
                have tcb := (Cb.out.cell (cell_lt t6)).trans t6
                have kcb := (Cb.out.cell (cell_lt k6)).trans k6
                clear hbc
                go_wp2_with fail
                refine ⟨⟨tcb, kcb⟩, ?_⟩
                refine wpAnyH_done (by kernel_rfl) ?_ _
                simp only [Only, ThenL, List.drop_succ_cons, List.drop_zero]
                have fzb := E7b.out.free (i + j)
                clear kcb
                go_wp2_with fail
                try simp only [Only]
                go_roundw
                case rel =>
                  refine ⟨j + 1, by go_num, by have := HLT.out; omega, ?_, ?_, E1b.out.other (fun e => M17.out e.symm) _, E2b.out.other (fun e => M27.out e.symm) _, EBb.out.setCell Q7.out _⟩
                  · show NRowT _ _ _
                    rw [hstep.out, addAt_true, HY2.out, ← HM2.out]
                    exact E7b.out.set (i + j) (y2 + x)
                  · show NRowT _ _ _
                    rw [hstep.out, addAt_true, addAt_true, HY1.out]
                    exact E8b.out.other (fun e => NE.out e) _
                case measure => simp [intOf] <;> (have := HLT.out; omega)
          · have q2 : decide ((i : Int) + (j : Int) ≤ (n : Int)) = false := by simp; omega
            have e1 : j = n + 1 - i := by omega
            have f7 : (j : Int) ≤ 1001 := by have := HN.out; omega
            have f5 : (0 : Int) ≤ (j : Int) := by omega
            subst e1
            clear hj hlt
            go_wp2_with fail
            go_roundw
            case rel => exact ⟨i + 1, by go_num, by have := IL.out; omega, by rw [hnext.out]; exact hg7, by rw [hnext.out]; exact hg8, hg1, hg2, hB⟩
            case measure => simp [intOf] <;> (have := IL.out; omega)
    · have q0 : decide ((i : Int) < ((n + 1 : Nat) : Int)) = false := by simp; omega
      have e1 : i = n + 1 := by omega
      subst e1
      go_wp2_with fail
      go_ret
      exact ⟨⟨g8, rfl, Q8.out, by rw [HOS.out, HZS.out]; exact hg8.out⟩, hB.out⟩
end Go.Proofs.YtccalhlhdiapiaaGreatDoor
namespace Go.Proofs.YtccalhlhdiapiaaGreatDoor
open Go.RowKit Go.Shelf
open Go.Lib (decDigits nDigits)
set_option linter.unusedVariables false
set_option linter.unusedSimpArgs false
set_option maxRecDepth 100000 in
theorem g_power (w : World) (n : Nat) (hn : n ≤ 1000) (hL : Lay w) :
    Calls Tryz.prog 63 #[.int .i64 n] w fun e w' => e = .returned (.string (numB (2 ^ n))) ∧ Below w.heap.size w w' := by
  have HP := hid (n_Pow_ok w ⟨#[50]⟩ n errN_two (by omega) (by rw [bN_two]; exact two_digits hn) hL)
  rw [bN_two] at HP
  clear hn hL
  go_enter Tryz.func63, Tryz.ntmps63
  go_wp2_with fail
  refine HP.out.mono ?_; rintro e w1 ⟨rfl, hb1⟩
  have b1 := hid hb1; clear hb1
  go_wp2_with fail
  go_ret
  exact ⟨rfl, b1.out⟩
end Go.Proofs.YtccalhlhdiapiaaGreatDoor
namespace Go.Proofs.YtccalhlhdiapiaaGreatDoor
open Go.RowKit
open Go.Lib (decDigits nDigits)
set_option linter.unusedVariables false
set_option linter.unusedSimpArgs false
/-- A row of the call's own, of n + 1 numbers. -/
def OwnR (w : World) (H n : Nat) (v : Value) (l : List Nat) : Prop := ∃ g, v = .slice (some ⟨g, 0, none⟩) (n + 1) (n + 1) ∧ H ≤ g ∧ NRowT w g l
/-- The table that late takes: of one series, or of two. -/
def lateL (two : Bool) (L : List Nat) (n : Nat) : List Nat := if two = true then cOut L n (n + 1) else L
set_option maxRecDepth 100000 in
set_option maxHeartbeats 8000000 in
theorem g_late (w : World) (a : ByteArray) (n N D : Nat) (two : Bool) (ha : a.size ≤ 100000) (he : gPE a = 0) (hn : n ≤ 256) (hN : bN (cW a) = N) (hD : bN (qD a) = D) (hND : N < D) (hL : Lay w)
    (hR : ∀ i, i ≤ n → (lateL two (tOut (oneJ N D) (zeroJ N D) n (n + 1)).2 n).getD i 0 * 2 ^ (n - i) ≤ rIn (lateL two (tOut (oneJ N D) (zeroJ N D) n (n + 1)).2 n) n i) :
    Calls Tryz.prog 31 #[.string a, .int .i64 n, .bool two] w fun e w' => e = .returned (.tuple #[.string (outB (qmk false (rIn (lateL two (tOut (oneJ N D) (zeroJ N D) n (n + 1)).2 n) n (n + 1)) (2 ^ n))), .int .i64 0]) ∧ Below w.heap.size w w' := by
  have HA := hid (g_ratio w a ha hL)
  rw [if_pos he, if_pos he, he] at HA
  have HT := fun V hV => hid (g_totals V a n N D ha he (by omega) hN hD hND hV)
  have HRep := fun V g h => hid (s_Repeat V g (n + 1) ⟨#[48]⟩ (by omega) (by omega) h)
  have hLb := tab_bound (os := oneJ N D) (zs := zeroJ N D) rfl hn
  obtain ⟨L, hL0⟩ : ∃ L, (tOut (oneJ N D) (zeroJ N D) n (n + 1)).2 = L := ⟨_, rfl⟩
  have HLQ := hid hL0
  rw [hL0] at hLb hR ⊢
  have HLb := hid hLb
  have hM : (lateL two L n).length = n + 1 ∧ ∀ k, (lateL two L n).getD k 0 ≤ 2 ^ e7 := by
    unfold lateL
    split
    · have h := CB.outer hLb.2 (n + 1) (Nat.le_refl (n + 1))
      exact ⟨h.len, fun k => conv_bound hn (Nat.le_refl _) (h.up k)⟩
    · exact ⟨hLb.1, fun k => Nat.le_trans (hLb.2 k) (Nat.pow_le_pow_right (by omega) (by unfold e3 e7; omega))⟩
  obtain ⟨M, hM0⟩ : ∃ M, lateL two L n = M := ⟨_, rfl⟩
  have HMQ := hid hM0
  rw [hM0] at hM hR ⊢
  have HMb := hid hM; have HR := hid hR
  have hmk := mk_num (a := rIn M n (n + 1)) (b := 2 ^ n) (two_pow_digits (rIn_le M n _) (by omega)) (two_pow_digits (Nat.le_refl _) (by omega)) (by have := Nat.pow_pos (n := n) (show 0 < 2 by omega); omega)
  have hov : ¬ ovQ (qmk false (rIn M n (n + 1)) (2 ^ n)) := by
    have hd : 0 < 2 ^ n := Nat.pow_pos (by omega)
    unfold ovQ
    rw [qmk_num hd, qmk_den hd, sgn_natAbs]
    have h1 := nDigits_mono (Nat.div_le_self (rIn M n (n + 1)) (Nat.gcd (rIn M n (n + 1)) (2 ^ n)))
    have h2 := nDigits_mono (Nat.div_le_self (2 ^ n) (Nat.gcd (rIn M n (n + 1)) (2 ^ n)))
    have h3 := two_pow_digits (rIn_le M n (n + 1)) (by omega)
    have h4 := two_pow_digits (Nat.le_refl (2 ^ n)) (by omega)
    omega
  have HQM := fun V hV => hid (q_Make V (numB (rIn M n (n + 1))) (numB (2 ^ n)) (numB_sz (two_pow_digits (rIn_le M n _) (by omega))) (numB_sz (two_pow_digits (Nat.le_refl _) (by omega))) hV)
  rw [hmk.1, hmk.2, outE_ok hov] at HQM
  obtain ⟨out, hout⟩ : ∃ o, outB (qmk false (rIn M n (n + 1)) (2 ^ n)) = o := ⟨_, rfl⟩
  rw [hout] at HQM ⊢
  have HLy := hid hL; have HLL := hid hL.lt; have HN := hid hn
  have wn : IntKind.i64.wrap ((n : Int) + 1) = ((n + 1 : Nat) : Int) := by rw [IntWalk.i64_in _ ⟨by omega, by omega⟩]; omega
  have q0 : decide ((n : Int) < 0) = false := by simp
  have q1 : decide ((256 : Int) < (n : Int)) = false := by simp; omega
  have n256 : (n : Int) ≤ 256 := by omega
  clear ha he hn hN hD hND hL hR hLb hL0 hM hM0 hmk hov hout
  go_enter Tryz.func31, Tryz.ntmps31
  go_wp2_with fail
  refine HA.out.mono ?_; rintro e w1 ⟨rfl, hb1⟩
  have B1 := hid hb1
  clear hb1 HA
  go_wp2_with fail
  refine (HT _ (HLy.out.call B1.out)).out.mono ?_; rintro e w2 ⟨⟨g11, rfl, h11, hr11⟩, hb2⟩
  rw [HLQ.out] at hr11
  have R11 := hid hr11; have B2 := hid (bnext B1.out hb2); have K11 := hid (show w.heap.size ≤ g11 from Nat.le_trans B1.out.size h11)
  clear h11 hr11 hb2 HT
  go_upto_if 38 with fail
  go_cut [11] (fun s11 wx => OwnR wx w.heap.size n s11 M ∧ Below w.heap.size w wx)
  case first =>
    cases two
    · go_wp2_with fail
      go_meet
      exact ⟨⟨g11, rfl, K11.out, by rw [← HMQ.out]; exact R11.out⟩, B2.out⟩
    · go_wp2_with fail
      refine (HRep _ _ ((Blk.new w2 _ _).cell 0)).out.mono ?_; rintro e w3 ⟨rfl, hg8, hb3⟩
      obtain ⟨g12, h8⟩ : ∃ g, (w2.alloc (.cells #[.string ⟨#[48]⟩] 22)).heap.size = g := ⟨_, rfl⟩
      rw [h8] at hg8 ⊢
      have R12 := hid (NRowT.zeros hg8)
      have a2 := (Below.refl w2.heap.size w2).alloc (Nat.le_refl _) (.cells #[.string ⟨#[48]⟩] 22)
      have b3 := hid (bnext a2 hb3)
      have B3 := hid (bnext B2.out b3.out); have R113 := hid (R11.out.call b3.out)
      have K12 := hid (show w.heap.size ≤ g12 by rw [← h8]; have := B2.out.size; simp; omega)
      have NE := hid (show g11 ≠ g12 by have := R11.out.lt; rw [← h8]; simp; omega)
      clear hg8 hb3 a2 h8 HRep b3
      have hc0 := hid (show NRowT w3 g12 (cOut L n 0) from R12.out)
      go_wp2_with fail
      go_loopw [45] (fun ii wr => ∃ i : Nat, ii = .int .i64 (i : Nat) ∧ i ≤ n + 1 ∧ Hid (NRowT wr g12 (cOut L n i)) ∧ Hid (NRowT wr g11 L) ∧ Hid (Below w.heap.size w wr)) (fun ii wr => n + 1 - (intOf ii).toNat)
      case atStart => exact ⟨0, rfl, Nat.zero_le _, hc0, R113, B3⟩
      case round =>
        obtain ⟨i, rfl, hi, hg12, hg11, hB⟩ := hrel
        by_cases hlt : i < n + 1
        · have q5 : decide ((i : Int) < ((n + 1 : Nat) : Int)) = true := by simp; omega
          have f0 : (0 : Int) ≤ (i : Int) := by omega
          have f1 : (i : Int) < ((n + 1 : Nat) : Int) := by omega
          have f2 : (i : Int) ≤ 256 := by have := HN.out; omega
          have IL := hid hlt
          have CBI := hid (CB.outer (n := n) HLb.out.2 i hi)
          clear hi hlt
          go_wp2_with fail
          have d30 : decide ((i : Int) < (n : Int) + 1) = true := by have := IL.out; simp; omega
          try rw [d30]
          clear d30
          obtain ⟨wo, rfl⟩ : ∃ wo : World, wo = wr := ⟨_, rfl⟩
          obtain ⟨m0, hm0⟩ : ∃ s, cOut L n i = s := ⟨_, rfl⟩
          have hnext := hid (show cOut L n (i + 1) = cIn L i (n + 1 - i) m0 from by rw [cOut, hm0])
          rw [hm0] at hg12 CBI
          clear hm0
          go_loopw [14] (fun jj wq => ∃ j : Nat, jj = .int .i64 (j : Nat) ∧ i + j ≤ n + 1 ∧ Hid (NRowT wq g12 (cIn L i j m0)) ∧ Hid (NRowT wq g11 L) ∧ Hid (Below w.heap.size w wq)) (fun jj wq => n + 1 - (intOf jj).toNat)
          case atStart => exact ⟨0, rfl, by have := IL.out; omega, hg12, hg11, hB⟩
          case round =>
            clear hg12 hg11 hB
            obtain ⟨j, rfl, hj, hg12, hg11, hB⟩ := hrel
            have CBJ := hid (CB.inner CBI.out HLb.out.2 j hj)
            by_cases hlt : i + j ≤ n
            · have q6 : decide ((i : Int) + (j : Int) ≤ (n : Int)) = true := by simp; omega
              have f5 : (0 : Int) ≤ (j : Int) := by omega
              have f6 : (j : Int) < ((n + 1 : Nat) : Int) := by omega
              have f7 : (j : Int) ≤ 256 := by have := HN.out; omega
              have f8 : (i : Int) + (j : Int) < ((n + 1 : Nat) : Int) := by omega
              have f9 : (i : Int) + (j : Int) < (n : Int) + 1 := by omega
              have f10 : (0 : Int) ≤ (i : Int) + (j : Int) := by omega
              have f11 : (j : Int) < (n : Int) + 1 := by omega
              have HLT := hid hlt
              obtain ⟨y, hy⟩ : ∃ y, (cIn L i j m0).getD (i + j) 0 = y := ⟨_, rfl⟩
              obtain ⟨x1, hx1⟩ : ∃ y, L.getD i 0 = y := ⟨_, rfl⟩
              obtain ⟨x2, hx2⟩ : ∃ y, L.getD j 0 = y := ⟨_, rfl⟩
              have b1 : x1 ≤ 2 ^ e3 := hx1 ▸ HLb.out.2 i
              have b2 : x2 ≤ 2 ^ e3 := hx2 ▸ HLb.out.2 j
              have tb : i * (n + 1) + j + 1 ≤ (n + 1) * (n + 1) := by
                have h1 : (i + 1) * (n + 1) ≤ (n + 1) * (n + 1) := Nat.mul_le_mul_right _ (by omega)
                rw [Nat.succ_mul] at h1
                omega
              have by0 : y ≤ 2 ^ e7 := hy ▸ conv_bound HN.out (t := i * (n + 1) + j) (by omega) (CBJ.out.up (i + j))
              have bm : x1 * x2 ≤ 2 ^ e7 := by
                have h1 := Nat.mul_le_mul b1 b2
                rw [← Nat.pow_add] at h1
                exact Nat.le_trans h1 (Nat.pow_le_pow_right (by omega) (by unfold e3 e7; omega))
              have bs : y + x1 * x2 ≤ 2 ^ (e7 + 1) := by rw [Nat.pow_succ]; omega
              have e37 : e3 ≤ 3000 ∧ e7 + 1 ≤ 3000 := by unfold e3 e7; omega
              have P1 := fun V hV => hid (p_times V x1 x2 (two_pow_digits b1 e37.1) (two_pow_digits b2 e37.1) (two_pow_digits bm (by omega)) hV)
              have P2 := fun V hV => hid (p_plus V y (x1 * x2) (two_pow_digits by0 (by omega)) (two_pow_digits bm (by omega)) (two_pow_digits bs e37.2) hV)
              have t1 : wr.cell? ⟨g12, i + j, none⟩ = some (.string (numB y)) := by rw [← hy]; exact hg12.out.cell (by rw [CBJ.out.len]; have := HLT.out; omega)
              have t2 : wr.cell? ⟨g11, i, none⟩ = some (.string (numB x1)) := by rw [← hx1]; exact hg11.out.cell (by rw [HLb.out.1]; exact IL.out)
              have t3 : wr.cell? ⟨g11, j, none⟩ = some (.string (numB x2)) := by rw [← hx2]; exact hg11.out.cell (by rw [HLb.out.1]; have := HLT.out; omega)
              obtain ⟨u1, hu1⟩ : ∃ s, numB y = s := ⟨_, rfl⟩
              obtain ⟨u2, hu2⟩ : ∃ s, numB x1 = s := ⟨_, rfl⟩
              obtain ⟨u3, hu3⟩ : ∃ s, numB x2 = s := ⟨_, rfl⟩
              obtain ⟨u4, hu4⟩ : ∃ s, numB (x1 * x2) = s := ⟨_, rfl⟩
              obtain ⟨u5, hu5⟩ : ∃ s, numB (y + x1 * x2) = s := ⟨_, rfl⟩
              rw [hu2, hu3, hu4] at P1
              rw [hu1, hu4, hu5] at P2
              rw [hu1] at t1
              rw [hu2] at t2
              rw [hu3] at t3
              have hstep := hid (show cIn L i (j + 1) m0 = (cIn L i j m0).set (i + j) (y + x1 * x2) from by rw [cIn, cStep, hy, hx1, hx2])
              have HU5 := hid hu5
              clear hy hx1 hx2 b1 b2 tb by0 bm bs e37 hu1 hu2 hu3 hu4 hu5 hlt hj
              go_wp2_with fail
              have ew : IntKind.i64.wrap ((i : Int) + (j : Int)) = (i : Int) + (j : Int) := by rw [IntWalk.i64_in _ ⟨by omega, by omega⟩]
              have et : ((i : Int) + (j : Int)).toNat = i + j := by omega
              refine held_lasts 20 2 [0, 1, 2, 3, 4, 5, 6, 7, 8, 9, 10, 11, 12, 13, 14, 15, 16, 17] 2 (fun W' => W'.cell? ⟨g12, i + j, none⟩ = some (.string u1) ∧ W'.cell? ⟨g11, i, none⟩ = some (.string u2) ∧ W'.cell? ⟨g11, j, none⟩ = some (.string u3)) (by kernel_rfl) rfl (by kernel_rfl) (by kernel_rfl) (by kernel_rfl) (by kernel_rfl) ⟨t1, t2, t3⟩ ?_
              iterate 18
                refine ⟨_, rfl, ?_⟩
                apply Exists.intro
                refine ⟨.inl ⟨by rfl, ?_⟩, ?_⟩
                · (intro W' hW'; obtain ⟨r1, r2, r3⟩ := hW'; go_simp; try (with_reducible rfl))
                (dsimp only [Act.put]; try simp only [List.setIfInBounds_toArray, List.set_cons_zero, List.set_cons_succ])
              refine held_one (i := 18) (by kernel_rfl) (by rfl) (by rfl) ?_
              go_wp2_with fail
              refine (P1 _ (HLy.out.below hB.out.drew HLL.out)).out.mono ?_; rintro e w5 ⟨rfl, hbc⟩
              have C5 := hid (show Below wr.heap.size wr w5 from (Below.refl _ _).drew.trans hbc)
              have E5 := hid (hg12.out.call C5.out); have F5 := hid (hg11.out.call C5.out); have EB5 := hid (hB.out.trans (C5.out.mono hB.out.size))
              have s1 := (C5.out.cell (cell_lt t1)).trans t1
              have s2 := (C5.out.cell (cell_lt t2)).trans t2
              have s3 := (C5.out.cell (cell_lt t3)).trans t3
              clear hbc t1 t2 t3
              go_wp2_with fail
              refine ⟨⟨s1, s2, s3⟩, ?_⟩
              refine held_one (i := 19) (by kernel_rfl) (by rfl) (by rfl) ?_
              go_wp2_with fail
              refine (P2 _ (HLy.out.below EB5.out HLL.out)).out.mono ?_; rintro e w6 ⟨rfl, hbc⟩
              have E6 := hid (E5.out.call hbc); have F6 := hid (F5.out.call hbc); have EB6 := hid (EB5.out.trans (hbc.mono EB5.out.size))
              have v1 := (hbc.cell (cell_lt s1)).trans s1
              have v2 := (hbc.cell (cell_lt s2)).trans s2
              have v3 := (hbc.cell (cell_lt s3)).trans s3
              clear hbc s1 s2 s3
              go_wp2_with fail
              refine ⟨⟨v1, v2, v3⟩, ?_⟩
              refine wpAnyH_done (by kernel_rfl) ?_ _
              simp only [Only, ThenL, List.drop_succ_cons, List.drop_zero]
              have fz := E6.out.free (i + j)
              clear v2 v3
              go_wp2_with fail
              try simp only [Only]
              go_roundw
              case rel =>
                refine ⟨j + 1, by go_num, by have := HLT.out; omega, ?_, F6.out.other (fun e => NE.out e.symm) _, EB6.out.setCell K12.out _⟩
                show NRowT _ _ _
                rw [hstep.out, ← HU5.out]
                exact E6.out.set (i + j) (y + x1 * x2)
              case measure => simp [intOf] <;> (have := HLT.out; omega)
            · have q6 : decide ((i : Int) + (j : Int) ≤ (n : Int)) = false := by simp; omega
              have e1 : j = n + 1 - i := by omega
              have f7 : (j : Int) ≤ 257 := by have := HN.out; omega
              have f5 : (0 : Int) ≤ (j : Int) := by omega
              subst e1
              clear hj hlt
              go_wp2_with fail
              go_roundw
              case rel => exact ⟨i + 1, by go_num, by have := IL.out; omega, by rw [hnext.out]; exact hg12, hg11, hB⟩
              case measure => simp [intOf] <;> (have := IL.out; omega)
        · have q5 : decide ((i : Int) < ((n + 1 : Nat) : Int)) = false := by simp; omega
          have e1 : i = n + 1 := by omega
          subst e1
          go_wp2_with fail
          go_meet
          exact ⟨⟨g12, rfl, K12.out, by rw [← HMQ.out]; exact hg12.out⟩, hB.out⟩
  case rest =>
    obtain ⟨⟨g, rfl, hg, hrow⟩, hB⟩ := hcut
    have RG := hid hrow; have KG := hid hg; have B3 := hid hB
    have HPow := fun V k (hk : k ≤ 256) hV => hid (g_power V k (by omega) hV)
    clear hrow hg hB
    go_wp2_with fail
    refine (HPow _ n HN.out (HLy.out.call B3.out)).out.mono ?_; rintro e w4 ⟨rfl, hb4⟩
    have RG4 := hid (RG.out.call hb4); have B4 := hid (bnext B3.out hb4)
    clear hb4
    go_wp2_with fail
    go_loopw [15, 82] (fun rr ii wr => ∃ i : Nat, ii = .int .i64 (i : Nat) ∧ i ≤ n + 1 ∧ rr = .string (numB (rIn M n i)) ∧ Hid (NRowT wr g M) ∧ Hid (Below w.heap.size w wr)) (fun rr ii wr => n + 1 - (intOf ii).toNat)
    case atStart => exact ⟨0, rfl, Nat.zero_le _, rfl, RG4, B4⟩
    case round =>
      obtain ⟨i, rfl, hi, rfl, hrow, hB⟩ := hrel
      by_cases hlt : i < n + 1
      · have q5 : decide ((i : Int) < ((n + 1 : Nat) : Int)) = true := by simp; omega
        have f0 : (0 : Int) ≤ (i : Int) := by omega
        have f1 : (i : Int) < ((n + 1 : Nat) : Int) := by omega
        have f2 : (i : Int) ≤ 256 := by have := HN.out; omega
        have f3 : (i : Int) ≤ (n : Int) := by omega
        have w1' : IntKind.i64.wrap ((n : Int) - (i : Int)) = ((n - i : Nat) : Int) := by rw [IntWalk.i64_in _ ⟨by omega, by omega⟩]; omega
        have IL := hid hlt
        obtain ⟨x, hx⟩ : ∃ x, M.getD i 0 = x := ⟨_, rfl⟩
        have t1 : wr.cell? ⟨g, i, none⟩ = some (.string (numB x)) := by rw [← hx]; exact hrow.out.cell (by rw [HMb.out.1]; exact IL.out)
        have bx : x ≤ 2 ^ e7 := hx ▸ HMb.out.2 i
        have hle : x * 2 ^ (n - i) ≤ rIn M n i := hx ▸ HR.out i (by omega)
        have hnx := hid (show rIn M n (i + 1) = rIn M n i - x * 2 ^ (n - i) from by rw [rIn, hx])
        have br := rIn_le M n i
        obtain ⟨r, hr⟩ : ∃ r, rIn M n i = r := ⟨_, rfl⟩
        rw [hr] at hle hnx br ⊢
        have P1 := fun V hV => hid (p_times V x (2 ^ (n - i)) (two_pow_digits bx (by unfold e7; omega)) (two_pow_digits (Nat.le_refl _) (by omega)) (two_pow_digits (Nat.le_trans hle br) (by have := HN.out; omega)) hV)
        have P2 := fun V hV => hid (p_sub V r (x * 2 ^ (n - i)) (two_pow_digits br (by have := HN.out; omega)) (two_pow_digits (Nat.le_trans hle br) (by have := HN.out; omega)) hle hV)
        have P0 := fun V hV => (HPow V (n - i) (by have := HN.out; omega) hV)
        obtain ⟨u1, hu1⟩ : ∃ s, numB x = s := ⟨_, rfl⟩
        obtain ⟨u2, hu2⟩ : ∃ s, numB (2 ^ (n - i)) = s := ⟨_, rfl⟩
        obtain ⟨u3, hu3⟩ : ∃ s, numB (x * 2 ^ (n - i)) = s := ⟨_, rfl⟩
        obtain ⟨u4, hu4⟩ : ∃ s, numB r = s := ⟨_, rfl⟩
        obtain ⟨u5, hu5⟩ : ∃ s, numB (r - x * 2 ^ (n - i)) = s := ⟨_, rfl⟩
        rw [hu2] at P0
        rw [hu1, hu2, hu3] at P1
        rw [hu3, hu4, hu5] at P2
        rw [hu1] at t1
        rw [hu4]
        have HU5 := hid hu5
        clear hx bx hle br hr hu1 hu2 hu3 hu4 hu5 hi hlt HPow
        go_wp2_with fail
        refine (P0 _ (HLy.out.below hB.out HLL.out)).out.mono ?_; rintro e w5 ⟨rfl, hb5⟩
        have R5 := hid (hrow.out.call hb5); have B5 := hid (hB.out.trans (hb5.mono hB.out.size))
        clear hb5 t1
        go_wp2_with fail
        refine (P1 _ (HLy.out.below B5.out HLL.out)).out.mono ?_; rintro e w6 ⟨rfl, hb6⟩
        have R6 := hid (R5.out.call hb6); have B6 := hid (B5.out.trans (hb6.mono B5.out.size))
        clear hb6
        go_wp2_with fail
        refine (P2 _ (HLy.out.below B6.out HLL.out)).out.mono ?_; rintro e w7 ⟨rfl, hb7⟩
        have R7 := hid (R6.out.call hb7); have B7 := hid (B6.out.trans (hb7.mono B6.out.size))
        clear hb7 w1'
        go_wp2_with fail
        go_roundw
        case rel => exact ⟨i + 1, by go_num, by have := IL.out; omega, by rw [hnx.out, HU5.out], R7, B7⟩
        case measure => simp [intOf] <;> (have := IL.out; omega)
      · have q5 : decide ((i : Int) < ((n + 1 : Nat) : Int)) = false := by simp; omega
        have e1 : i = n + 1 := by omega
        subst e1
        obtain ⟨u1, hu1⟩ : ∃ s, numB (rIn M n (n + 1)) = s := ⟨_, rfl⟩
        obtain ⟨u2, hu2⟩ : ∃ s, numB (2 ^ n) = s := ⟨_, rfl⟩
        have P0 := fun V hV => (HPow V n HN.out hV)
        rw [hu1, hu2] at HQM
        rw [hu2] at P0
        rw [hu1]
        clear hu1 hu2 HPow hi hlt
        go_wp2_with fail
        refine (P0 _ (HLy.out.below hB.out HLL.out)).out.mono ?_; rintro e w5 ⟨rfl, hb5⟩
        have B5 := hid (hB.out.trans (hb5.mono hB.out.size))
        clear hb5
        go_wp2_with fail
        refine (HQM _ (HLy.out.below B5.out HLL.out)).out.mono ?_; rintro e w6 ⟨rfl, hb6⟩
        have B6 := hid (B5.out.trans (hb6.mono B5.out.size))
        clear hb6
        go_wp2_with fail
        go_ret2
        exact ⟨rfl, B6.out⟩
set_option maxRecDepth 100000 in
set_option maxHeartbeats 1000000 in
theorem g_TwoLate (w : World) (a : ByteArray) (n N D : Nat) (ha : a.size ≤ 100000) (he : gPE a = 0) (hn : n ≤ 256) (hN : bN (cW a) = N) (hD : bN (qD a) = D) (hND : N < D) (hL : Lay w)
    (hR : ∀ i, i ≤ n → (lateL true (tOut (oneJ N D) (zeroJ N D) n (n + 1)).2 n).getD i 0 * 2 ^ (n - i) ≤ rIn (lateL true (tOut (oneJ N D) (zeroJ N D) n (n + 1)).2 n) n i) :
    Calls Tryz.prog 10 #[.string a, .int .i64 n] w fun e w' => e = .returned (.tuple #[.string (outB (qmk false (rIn (lateL true (tOut (oneJ N D) (zeroJ N D) n (n + 1)).2 n) n (n + 1)) (2 ^ n))), .int .i64 0]) ∧ Below w.heap.size w w' := by
  have H := hid (g_late w a n N D true ha he hn hN hD hND hL hR)
  obtain ⟨out, hout⟩ : ∃ o, outB (qmk false (rIn (lateL true (tOut (oneJ N D) (zeroJ N D) n (n + 1)).2 n) n (n + 1)) (2 ^ n)) = o := ⟨_, rfl⟩
  rw [hout] at H ⊢
  clear ha he hn hN hD hND hL hR hout
  go_enter Tryz.func10, Tryz.ntmps10
  go_wp2_with fail
  refine H.out.mono ?_; rintro e w1 ⟨rfl, hb1⟩
  have B1 := hid hb1; clear hb1
  go_wp2_with fail
  go_ret2
  exact ⟨rfl, B1.out⟩
end Go.Proofs.YtccalhlhdiapiaaGreatDoor
namespace Go.Proofs.YtccalhlhdiapiaaGreatDoor
open Go.RowKit
set_option linter.unusedVariables false
set_option linter.unusedSimpArgs false
/-- What a draw of a word says. -/
def drT (N D : Nat) (two : Bool) (l : List UInt8) : Bool × Int × Int := if two = true then twoT N D l else oneT N D l
theorem drT_is {N D : Nat} (h : N < D) (two : Bool) (l : List UInt8) : ∃ u : Nat, u ≤ l.length ∧ ((valT N D two l = none ∧ drT N D two l = (false, 0, (u : Int))) ∨ (∃ v : Int, -(l.length : Int) ≤ v ∧ v ≤ l.length ∧ valT N D two l = some v ∧ drT N D two l = (true, v, (u : Int)))) := by
  have hb := fun v hv => valT_bd h (two := two) (l := l) (v := v) hv
  unfold valT at hb
  unfold valT drT oneT twoT
  cases hs : s1 N D l 0 0 with
  | none => exact ⟨l.length, Nat.le_refl _, .inl ⟨rfl, by cases two <;> rfl⟩⟩
  | some xp =>
    obtain ⟨x, p⟩ := xp
    obtain ⟨b1, b2⟩ := s1_bd h hs
    rw [hs] at hb
    cases two
    · exact ⟨p, b1, .inr ⟨x, (hb _ rfl).1, (hb _ rfl).2, rfl, rfl⟩⟩
    · simp only [if_true] at hb ⊢
      have hd := s1_drop h (l := l) (a := p) b1 l.length 0 0 (by omega) (by omega)
      rw [Nat.add_zero] at hd
      rw [hd]
      cases hs2 : s1 N D (l.drop p) 0 0 with
      | none => exact ⟨l.length, Nat.le_refl _, .inl ⟨rfl, rfl⟩⟩
      | some yq =>
        obtain ⟨y, q⟩ := yq
        obtain ⟨b3, b4⟩ := s1_bd h hs2
        rw [List.length_drop] at b3
        rw [hs2] at hb
        exact ⟨p + q, by omega, .inr ⟨(x : Int) - (y : Int), (hb _ rfl).1, (hb _ rfl).2, rfl, rfl⟩⟩
/-- The table of a tally of some words. -/
def tlL (N D : Nat) (two : Bool) (n : Nat) (W : List (List UInt8)) : List Nat := (List.range (2 * n + 2)).map fun i => if i = 2 * n + 1 then W.countP (fun l => decide (valT N D two l = none)) else W.countP (fun l => decide (valT N D two l = some ((i : Int) - n)))
theorem tlL_len (N D : Nat) (two : Bool) (n : Nat) (W : List (List UInt8)) : (tlL N D two n W).length = 2 * n + 2 := by simp [tlL]
theorem tlL_nil (N D : Nat) (two : Bool) (n : Nat) : tlL N D two n [] = List.replicate (2 * n + 2) 0 := by
  apply List.ext_getElem?
  intro i
  unfold tlL
  rw [List.getElem?_map, List.getElem?_replicate]
  by_cases h : i < 2 * n + 2
  · rw [if_pos h, List.getElem?_range h]
    simp
  · rw [if_neg h, List.getElem?_eq_none (by simp; omega)]; rfl
theorem tlL_get {N D : Nat} {two : Bool} {n i : Nat} {W : List (List UInt8)} (h : i < 2 * n + 2) : (tlL N D two n W)[i]? = some (if i = 2 * n + 1 then W.countP (fun l => decide (valT N D two l = none)) else W.countP (fun l => decide (valT N D two l = some ((i : Int) - n)))) := by
  unfold tlL
  rw [List.getElem?_map, List.getElem?_range h]; rfl
theorem tlL_le {N D : Nat} {two : Bool} {n i : Nat} {W : List (List UInt8)} {x : Nat} (h : (tlL N D two n W)[i]? = some x) : x ≤ W.length := by
  have hi : i < 2 * n + 2 := by have := (List.getElem?_eq_some_iff.1 h).1; rwa [tlL_len] at this
  rw [tlL_get hi] at h
  rw [← Option.some.inj h]
  split <;> exact List.countP_le_length
theorem tlL_done {N D : Nat} {two : Bool} {n : Nat} {W : List (List UInt8)} {l : List UInt8} {v : Int} (hv : valT N D two l = some v) (h1 : -(n : Int) ≤ v) (h2 : v ≤ n) :
    ∃ x, (tlL N D two n W)[((n : Int) + v).toNat]? = some x ∧ tlL N D two n (W ++ [l]) = (tlL N D two n W).set ((n : Int) + v).toNat (x + 1) := by
  refine ⟨_, tlL_get (by omega), ?_⟩
  apply List.ext_getElem?
  intro i
  rw [List.getElem?_set]
  by_cases hi : i < 2 * n + 2
  · rw [tlL_get hi, tlL_get hi, tlL_len]
    simp only [List.countP_append, List.countP_singleton]
    by_cases e : ((n : Int) + v).toNat = i
    · subst e
      rw [if_pos rfl, if_neg (by omega), if_pos hi, show (((n : Int) + v).toNat : Int) - (n : Int) = v by omega, hv]
      simp
      intro h3
      omega
    · rw [if_neg e, hv]
      by_cases e2 : i = 2 * n + 1
      · rw [if_pos e2, if_pos e2]; simp
      · rw [if_neg e2, if_neg e2, if_neg]
        · rfl
        · simp; omega
  · rw [List.getElem?_eq_none (by rw [tlL_len]; omega)]
    split
    · rename_i e
      omega
    · rw [List.getElem?_eq_none (by rw [tlL_len]; omega)]
theorem tlL_late {N D : Nat} {two : Bool} {n : Nat} {W : List (List UInt8)} {l : List UInt8} (hv : valT N D two l = none) :
    ∃ x, (tlL N D two n W)[2 * n + 1]? = some x ∧ tlL N D two n (W ++ [l]) = (tlL N D two n W).set (2 * n + 1) (x + 1) := by
  refine ⟨_, tlL_get (by omega), ?_⟩
  apply List.ext_getElem?
  intro i
  rw [List.getElem?_set]
  by_cases hi : i < 2 * n + 2
  · rw [tlL_get hi, tlL_get hi, tlL_len]
    simp only [List.countP_append, List.countP_singleton]
    by_cases e : 2 * n + 1 = i
    · subst e
      rw [if_pos hi]
      simp [hv]
    · have e2 : ¬ i = 2 * n + 1 := fun h => e h.symm
      rw [if_neg e]
      simp [e2, hv]
  · rw [List.getElem?_eq_none (by rw [tlL_len]; omega)]
    split
    · rename_i e
      omega
    · rw [List.getElem?_eq_none (by rw [tlL_len]; omega)]
/-- All words. -/
def tlA (N D : Nat) (two : Bool) (n i : Nat) : Nat := if i = 2 * n + 1 then gL N D two n else gV N D two n ((i : Int) - n)
theorem tlL_all {N D : Nat} {two : Bool} {n i : Nat} (h : i < 2 * n + 2) : (tlL N D two n (allW n))[i]? = some (tlA N D two n i) := by
  rw [tlL_get h]
  unfold tlA gL gV
  rw [cw_all, cw_all]
/-- The pairs that have been found, of the first i places. -/
def fdN (N D : Nat) (two : Bool) (n i : Nat) : Nat := (List.range i).countP fun j => decide (tlA N D two n j ≠ 0)
theorem fdN_step (N D : Nat) (two : Bool) (n i : Nat) : fdN N D two n (i + 1) = fdN N D two n i + (if tlA N D two n i = 0 then 0 else 1) := by
  unfold fdN
  rw [List.range_succ, List.countP_append, List.countP_singleton]
  by_cases h : tlA N D two n i = 0 <;> simp [h]
theorem fdN_le (N D : Nat) (two : Bool) (n i : Nat) : fdN N D two n i ≤ i := by
  have := List.countP_le_length (p := fun j => decide (tlA N D two n j ≠ 0)) (l := List.range i)
  rwa [List.length_range] at this
theorem len_filterMap {α β : Type} (c : α → Bool) (f : α → β) : ∀ L : List α, (L.filterMap fun x => if c x = true then none else some (f x)).length = L.countP fun x => !c x
  | [] => rfl
  | x :: r => by
    rw [List.filterMap_cons, List.countP_cons]
    cases h : c x
    · simp [len_filterMap c f r]
    · simp [len_filterMap c f r]
theorem fdN_all (N D : Nat) (two : Bool) (n t : Nat) : fdN N D two n (2 * n + 2) = (sortM (glP (gV N D two n) t n (gL N D two n))).length := by
  rw [sortM_length, fdN_step]
  unfold glP
  rw [List.length_append]
  congr 1
  · have h := len_filterMap (fun j : Nat => decide (gV N D two n ((j : Int) - n) = 0)) (fun j : Nat => (zB ((j : Int) - n), shB (gV N D two n ((j : Int) - n)) t)) (List.range (2 * n + 1))
    unfold glM
    simp only [decide_eq_true_eq] at h
    rw [h]
    unfold fdN
    refine List.countP_congr fun j hj => ?_
    rw [List.mem_range] at hj
    unfold tlA
    rw [if_neg (by omega)]
    simp
  · unfold tlA
    rw [if_pos rfl]
    split <;> rfl
/-- The key of a place. -/
def keyA (n i : Nat) : ByteArray := if i = 2 * n + 1 then lateB else zB ((i : Int) - n)
theorem glP_has {N D : Nat} {two : Bool} {n t i : Nat} (hi : i < 2 * n + 2) (h : tlA N D two n i ≠ 0) : hasM (sortM (glP (gV N D two n) t n (gL N D two n))) (keyA n i, shB (tlA N D two n i) t) = true := by
  rw [hasM_iff, sortM_mem, glP_mem]
  unfold tlA at h ⊢
  unfold keyA
  by_cases e : i = 2 * n + 1
  · rw [if_pos e] at h ⊢
    rw [if_pos e]
    exact .inr ⟨h, rfl⟩
  · rw [if_neg e] at h ⊢
    rw [if_neg e]
    exact .inl ⟨_, by omega, by omega, h, rfl⟩
theorem glP_strict {c : Int → Nat} {t n r i : Nat} {p q : ByteArray × ByteArray} (hp : (sortM (glP c t n r))[i]? = some p) (hq : (sortM (glP c t n r))[i + 1]? = some q) : ¬ keyL q ≤ keyL p :=
  sortM_strict (glP_nd c t n r) hp hq
/-- What geom.late says. -/
theorem late_gL {N D : Nat} (h : N < D) (two : Bool) (n : Nat) : rIn (lateL two (tOut (oneJ N D) (zeroJ N D) n (n + 1)).2 n) n (n + 1) = gL N D two n ∧ ∀ i, i ≤ n → (lateL two (tOut (oneJ N D) (zeroJ N D) n (n + 1)).2 n).getD i 0 * 2 ^ (n - i) ≤ rIn (lateL two (tOut (oneJ N D) (zeroJ N D) n (n + 1)).2 n) n i := by
  have hs : sumN (fun i => (lateL two (tOut (oneJ N D) (zeroJ N D) n (n + 1)).2 n).getD i 0 * 2 ^ (n - i)) (n + 1) = if two = true then cw n (dec2P N D) else cw n (decP N D) := by
    cases two
    · exact tot_dec h n (Nat.le_refl n)
    · rw [if_pos rfl, ← tot_dec2 h n (Nat.le_refl n)]
      unfold lateL
      rw [if_pos rfl]
      refine sumN_congr fun i hi => ?_
      rw [cOut_all (by omega)]; rfl
  have hle : sumN (fun i => (lateL two (tOut (oneJ N D) (zeroJ N D) n (n + 1)).2 n).getD i 0 * 2 ^ (n - i)) (n + 1) ≤ 2 ^ n := by
    rw [hs]
    have h1 := cw_not (dec2P N D) n
    have h2 := cw_not (decP N D) n
    split <;> omega
  refine ⟨?_, rIn_ok hle⟩
  rw [rIn_sum hle _ (Nat.le_refl _), hs]
  cases two
  · exact (gL_dec N D n).symm
  · exact (gL_dec2 N D n).symm
end Go.Proofs.YtccalhlhdiapiaaGreatDoor
namespace Go.Proofs.YtccalhlhdiapiaaGreatDoor
open Go.RowKit Go.Shelf
open Go.Lib (decDigits nDigits)
set_option linter.unusedVariables false
theorem make_ints (n : Nat) (hn : n ≤ 3000000) (W : World) : (Instr.makeSlice 35 (.int .i64 (n : Int)) (.int .i64 (n : Int))).run Tryz.prog W = .ok (.slice (some ⟨W.heap.size, 0, none⟩) n n) (W.alloc (.cells (madeCells #[.int .i64 0] n) 3)) :=
  run_make_row' (P := Tryz.prog) 35 3 (.int .i64 0) 8 Tryz.underlying35 (by kernel_rfl) rfl .i64 .i64 n (by omega) (by omega) W
theorem tb_list (l : List UInt8) : (tb l).data.toList = l := by simp [tb]
theorem bit_words {n : Nat} {l : List UInt8} (h : l ∈ allW n) (hn : n ≤ 256) : chkE (tb l) = 0 := by
  have h1 : bitB (tb l) = true := by
    unfold bitB
    rw [tb_list, List.all_eq_true]
    intro b hb
    rcases allW_bits h b hb with rfl | rfl <;> decide
  rw [chkE, if_pos h1, if_neg (by rw [tb_size, allW_len h]; omega)]
theorem made_ints (n : Nat) : madeCells #[.int .i64 0] n = (ints .i64 (List.replicate n 0)).toArray := made_zeros .i64 n
theorem less_lt {x z : ByteArray} (h : ¬ z.data.toList ≤ x.data.toList) : Op.bytesLess x.toList z.toList = true := by
  rw [bytesLess_eq, Lib.toList_data, Lib.toList_data]
  exact decide_eq_true (List.not_le.1 h)
end Go.Proofs.YtccalhlhdiapiaaGreatDoor
namespace Go.Proofs.YtccalhlhdiapiaaGreatDoor
open Go.RowKit Go.Shelf
open Go.Lib (decDigits nDigits)
set_option linter.unusedVariables false
set_option linter.unusedSimpArgs false
theorem gE_word {a : ByteArray} (he : gPE a = 0) {n : Nat} {x : List UInt8} (hx : x ∈ allW n) (hn : n ≤ 256) : gE a (tb x) = 0 := by
  unfold gE
  rw [he, if_neg (by simp)]
  exact bit_words hx hn
set_option maxRecDepth 100000 in
set_option maxHeartbeats 8000000 in
theorem w_tally1 (w : World) (a : ByteArray) (n N D : Nat) (ha : a.size ≤ 100000) (he : gPE a = 0) (hn : n ≤ 8) (hN : bN (cW a) = N) (hD : bN (qD a) = D) (hND : N < D) (hL : Lay w) :
    Calls Tryz.prog 17 #[.string a, .int .i64 (n : Nat), .bool false] w fun e w' => (∃ g, e = .returned (.slice (some ⟨g, 0, none⟩) (2 * n + 2) (2 * n + 2)) ∧ Arr .i64 3 w' g (tlL N D false n (allW n))) ∧ Below w.heap.size w w' := by
  have P1 := fun (x : List UInt8) (hx : x ∈ allW n) V hV => hid (g_One V a (tb x) ha (by rw [tb_size, allW_len hx]; omega) hV)
  have P2 := fun (x : List UInt8) (hx : x ∈ allW n) V hV => hid (g_Two V a (tb x) ha (by rw [tb_size, allW_len hx]; omega) hV)
  have HE1 : Hid (∀ x ∈ allW n, gE a (tb x) = 0 ∧ oT a (tb x) = drT N D false x ∧ wT a (tb x) = drT N D true x) := fun x hx => by
    have e1 := gE_word he hx (by omega)
    refine ⟨e1, ?_, ?_⟩
    · unfold oT drT; rw [if_pos e1, tb_list, hN, hD]; rfl
    · unfold wT drT; rw [if_pos e1, tb_list, hN, hD]; rfl
  have HD : Hid (∀ two x, x ∈ allW n → ∃ u : Nat, u ≤ n ∧ ((valT N D two x = none ∧ drT N D two x = (false, 0, (u : Int))) ∨ (∃ v : Int, -(n : Int) ≤ v ∧ v ≤ n ∧ valT N D two x = some v ∧ drT N D two x = (true, v, (u : Int))))) := fun two x hx => by
    have := drT_is hND two x
    rwa [allW_len hx] at this
  have HTD := hid (fun (W : List (List UInt8)) l v (h : valT N D false l = some v) (h1 : -(n : Int) ≤ v) (h2 : v ≤ n) => tlL_done (two := false) (n := n) (W := W) h h1 h2)
  have HTL := hid (fun (W : List (List UInt8)) l (h : valT N D false l = none) => tlL_late (two := false) (n := n) (W := W) h)
  have HTX : Hid (∀ (W : List (List UInt8)) i x, (tlL N D false n W)[i]? = some x → x ≤ W.length) := fun W i x h => tlL_le h
  have HT0 := hid (tlL_nil N D false n)
  have HTLN := hid (tlL_len N D false n)
  obtain ⟨TL, hTL⟩ : ∃ f, tlL N D false n = f := ⟨_, rfl⟩
  rw [hTL] at HT0 HTLN HTD HTL HTX ⊢
  have PA := fun V => hid (r3_All V n (by omega))
  have hp : 2 ^ n ≤ 256 := Nat.le_trans (Nat.pow_le_pow_right (by omega) hn) (by decide)
  obtain ⟨M, hM⟩ : ∃ M, 2 ^ n = M := ⟨_, rfl⟩
  have HM := hid hM
  have HAL := hid (show (allW n).length = M by rw [allW_length, hM])
  rw [hM] at hp
  have hmk := make_ints (2 * n + 2) (by omega)
  obtain ⟨K, hK⟩ : ∃ K, 2 * n + 2 = K := ⟨_, rfl⟩
  have HK := hid hK
  rw [hK] at hmk HT0 ⊢
  have w1 : IntKind.i64.wrap (2 * (n : Int)) = 2 * (n : Int) := by rw [IntWalk.i64_in _ ⟨by omega, by omega⟩]
  have w2 : IntKind.i64.wrap (2 * (n : Int) + 2) = (K : Int) := by rw [IntWalk.i64_in _ ⟨by omega, by omega⟩]; omega
  have w3 : IntKind.i64.wrap (2 * (n : Int) + 1) = ((2 * n + 1 : Nat) : Int) := by rw [IntWalk.i64_in _ ⟨by omega, by omega⟩]; omega
  have wn : IntKind.i64.wrap (-(n : Int)) = -(n : Int) := by rw [IntWalk.i64_in _ ⟨by omega, by omega⟩]
  have HL := hid hL; have HN := hid hn
  clear ha he hN hD hND hL hTL hM hn hK
  go_enter Tryz.func17, Tryz.ntmps17
  go_wp2_with fail
  refine (PA _).out.mono ?_; rintro e w4 ⟨⟨v4, rfl, hv4⟩, hb4⟩
  have y4 := hid hb4
  have V4 := hid hv4
  obtain ⟨a4, k4, rfl, s1, s2, -⟩ := hv4.openS
  rw [List.length_map, HAL.out] at V4 s1 ⊢
  clear hb4 hv4
  go_wp2_with fail
  have X4 := Blk.new w4 (madeCells #[.int .i64 0] K) 3
  have B4 := hid ((Below.refl w4.heap.size w4).alloc (Nat.le_refl _) (.cells (madeCells #[.int .i64 0] K) 3))
  rw [made_ints] at X4 B4 ⊢
  have X5 := hid (show Arr .i64 3 _ w4.heap.size (TL ((allW n).take 0)) by rw [List.take_zero, HT0.out]; exact X4)
  have V5 := hid (V4.out.call B4.out)
  have y5 := hid (bnext y4.out B4.out)
  obtain ⟨w5, hw5⟩ : ∃ w5, w4.alloc (.cells (ints .i64 (List.replicate K 0)).toArray 3) = w5 := ⟨_, rfl⟩
  obtain ⟨g, hgg⟩ : ∃ g, w4.heap.size = g := ⟨_, rfl⟩
  rw [hw5] at X5 V5 y5 ⊢
  rw [hgg] at X5 ⊢
  have G1 : Hid (w4.heap.size ≤ g) := by rw [← hgg]; exact Nat.le_refl _
  have W5 : Hid (Below g w4 w5) := by rw [← hgg, ← hw5]; exact (Below.refl w4.heap.size w4).alloc (Nat.le_refl _) _
  clear X4 B4 hw5 hgg
  go_loopw [10] (fun s10 wr => ∃ j : Nat, s10 = .int .i64 (j : Nat) ∧ j ≤ M ∧ Hid (Arr .i64 3 wr g (TL ((allW n).take j))) ∧ Hid (Below g w4 wr)) (fun s10 wr => M - (intOf s10).toNat)
  case atStart => exact ⟨0, rfl, Nat.zero_le _, X5, W5⟩
  case round =>
    obtain ⟨j, rfl, hj, hX, hB⟩ := hrel
    have hB4 := hid (hB.out.mono G1.out)
    have yr := hid (bnext y4.out hB4.out)
    by_cases hlt : j < M
    · obtain ⟨x, hx⟩ : ∃ x, (allW n)[j]? = some x := ⟨_, List.getElem?_eq_getElem (by rw [HAL.out]; exact hlt)⟩
      have hxm := List.mem_of_getElem? hx
      obtain ⟨g', o, rfl, hg', hc⟩ := V4.out.at (strs_get (show ((allW n).map tb)[j]? = some (tb x) by rw [List.getElem?_map, hx]; rfl))
      have hc2 := (hB4.out.cell (p := ⟨g', o + j, none⟩) hg').trans hc
      have HT : Hid ((allW n).take (j + 1) = (allW n).take j ++ [x]) := by show (allW n).take (j + 1) = _; rw [List.take_add_one, hx]; rfl
      have HTN : Hid (((allW n).take j).length = j) := by show _ = _; rw [List.length_take, HAL.out]; omega
      obtain ⟨e1, e2, e3⟩ := HE1.out x hxm
      have Q1 := fun V hV => P1 x hxm V hV
      have Q2 := fun V hV => P2 x hxm V hV
      rw [e1, e2] at Q1
      rw [e1, e3] at Q2
      have b1 : (0 : Int) ≤ (j : Int) := by omega
      have b2 : (j : Int) < (M : Int) := by omega
      have wi : IntKind.i64.wrap ((j : Int) + 1) = ((j + 1 : Nat) : Int) := by rw [IntWalk.i64_in _ ⟨by omega, by omega⟩]; omega
      have cg : ∀ W, Below wr.heap.size wr W → W.cell? ⟨g', o + j, none⟩ = some (.string (tb x)) := fun W hW => (hW.cell (cell_lt hc2)).trans hc2
      have CG := hid cg
      obtain ⟨X, hXX⟩ : ∃ X, tb x = X := ⟨_, rfl⟩
      rw [hXX] at Q1 Q2 hc2 CG
      obtain ⟨u0, hu0, hcase⟩ := HD.out false x hxm
      have JL := hid hlt
      have HGX : Hid (g < wr.heap.size) := hX.out.lt
      clear cg
      clear hx hg' hc e1 e2 e3 hXX hj hlt
      rcases hcase with ⟨hvn, hdr⟩ | ⟨v, hv1, hv2, hvs, hdr⟩
      · rw [hdr] at Q1
        simp only [d3] at Q1 Q2
        obtain ⟨y, hy1, hy2⟩ := HTL.out ((allW n).take j) x hvn
        have hyb := HTX.out _ _ _ hy1
        rw [HTN.out] at hyb
        have HY2 := hid hy2; have HY1 := hid hy1
        have m0 : decide ((u0 : Int) < 0) = false := by simp
        have m1 : decide ((n : Int) < (u0 : Int)) = false := by simp; omega
        have m1' : decide (n < u0) = false := by simp; omega
        have m2 : decide ((0 : Int) < -(n : Int)) = false := by simp
        have m3 : decide ((n : Int) < 0) = false := by simp
        have i1 : (0 : Int) ≤ ((2 * n + 1 : Nat) : Int) := by omega
        have i2 : ((2 * n + 1 : Nat) : Int) < (K : Int) := by have := HK.out; omega
        have wk : IntKind.i64.wrap ((y : Int) + 1) = ((y + 1 : Nat) : Int) := by rw [IntWalk.i64_in _ ⟨by omega, by omega⟩]; omega
        obtain ⟨z, hz⟩ : ∃ z, 2 * n + 1 = z := ⟨_, rfl⟩
        rw [hz] at i1 i2 w3 HY1 HY2
        clear hvn hdr hy1 hy2 hyb hz hu0
        go_wp2_with fail
        refine (Q1 _ (HL.out.call yr.out)).out.mono ?_; rintro e w6 ⟨rfl, hb6⟩
        have K6 := Blk.new w6 #[.bool false, .int .i64 0, .int .i64 (u0 : Nat)] 46
        have k0 := K6.cell 0
        have k1 := K6.cell 1
        have k2 := K6.cell 2
        simp at k0 k1 k2
        have X6 := hid ((hX.out.call hb6).call ((Below.refl _ _).alloc (Nat.le_refl _) (.cells #[.bool false, .int .i64 0, .int .i64 (u0 : Nat)] 46)))
        have B6 := hid (hB.out.trans ((hb6.mono (Nat.le_of_lt HGX.out)).alloc (by have := HGX.out; have := hb6.size; omega) (.cells #[.bool false, .int .i64 0, .int .i64 (u0 : Nat)] 46)))
        clear hb6 K6
        clear hc2
        have t1 := X6.out.cell HY1.out
        have t2 := X6.out.free z
        have X7 := hid (X6.out.set z (y + 1))
        have B7 := hid (below_set B6.out (g := g) (i := z) (Nat.le_refl _) (.int .i64 ((y + 1 : Nat) : Int)))
        go_wp2_with fail
        go_roundw
        case rel => exact ⟨j + 1, by go_num, by have := JL.out; omega, by rw [HT.out, HY2.out]; exact X7, B7⟩
        case measure => simp [intOf] <;> (have := JL.out; omega)
      · rw [hdr] at Q1
        simp only [d3] at Q1 Q2
        obtain ⟨y, hy1, hy2⟩ := HTD.out ((allW n).take j) x v hvs hv1 hv2
        have hyb := HTX.out _ _ _ hy1
        rw [HTN.out] at hyb
        have HY2 := hid hy2; have HY1 := hid hy1
        have m0 : decide ((u0 : Int) < 0) = false := by simp
        have m1 : decide ((n : Int) < (u0 : Int)) = false := by simp; omega
        have m1' : decide (n < u0) = false := by simp; omega
        have m2 : decide (v < -(n : Int)) = false := by simp; omega
        have m3 : decide ((n : Int) < v) = false := by simp; omega
        obtain ⟨z, hz⟩ : ∃ z, ((n : Int) + v).toNat = z := ⟨_, rfl⟩
        have hz2 : (n : Int) + v = (z : Int) := by omega
        have wz : IntKind.i64.wrap ((n : Int) + v) = (z : Int) := by have := HN.out; rw [IntWalk.i64_in _ ⟨by omega, by omega⟩]; exact hz2
        have i1 : (0 : Int) ≤ (z : Int) := by omega
        have i2 : (z : Int) < (K : Int) := by have := HK.out; omega
        have wk : IntKind.i64.wrap ((y : Int) + 1) = ((y + 1 : Nat) : Int) := by rw [IntWalk.i64_in _ ⟨by omega, by omega⟩]; omega
        rw [hz] at HY1 HY2
        clear hvs hdr hy1 hy2 hyb hz hz2 hu0 hv1 hv2
        go_wp2_with fail
        refine (Q1 _ (HL.out.call yr.out)).out.mono ?_; rintro e w6 ⟨rfl, hb6⟩
        have K6 := Blk.new w6 #[.bool true, .int .i64 v, .int .i64 (u0 : Nat)] 46
        have k0 := K6.cell 0
        have k1 := K6.cell 1
        have k2 := K6.cell 2
        simp at k0 k1 k2
        have X6 := hid ((hX.out.call hb6).call ((Below.refl _ _).alloc (Nat.le_refl _) (.cells #[.bool true, .int .i64 v, .int .i64 (u0 : Nat)] 46)))
        have B6 := hid (hB.out.trans ((hb6.mono (Nat.le_of_lt HGX.out)).alloc (by have := HGX.out; have := hb6.size; omega) (.cells #[.bool true, .int .i64 v, .int .i64 (u0 : Nat)] 46)))
        clear hb6 K6
        clear hc2
        have t1 := X6.out.cell HY1.out
        have t2 := X6.out.free z
        have X7 := hid (X6.out.set z (y + 1))
        have B7 := hid (below_set B6.out (g := g) (i := z) (Nat.le_refl _) (.int .i64 ((y + 1 : Nat) : Int)))
        go_wp2_with fail
        go_roundw
        case rel => exact ⟨j + 1, by go_num, by have := JL.out; omega, by rw [HT.out, HY2.out]; exact X7, B7⟩
        case measure => simp [intOf] <;> (have := JL.out; omega)
    · obtain rfl : j = M := by omega
      have q1 : decide ((j : Int) < (j : Int)) = false := by simp
      have hT : (allW n).take j = allW n := List.take_of_length_le (by rw [HAL.out]; exact Nat.le_refl _)
      rw [hT] at hX
      clear hlt hT
      go_wp2_with fail
      go_ret
      exact ⟨⟨g, rfl, hX.out⟩, yr.out⟩
set_option maxRecDepth 100000 in
set_option maxHeartbeats 8000000 in
theorem w_tally2 (w : World) (a : ByteArray) (n N D : Nat) (ha : a.size ≤ 100000) (he : gPE a = 0) (hn : n ≤ 8) (hN : bN (cW a) = N) (hD : bN (qD a) = D) (hND : N < D) (hL : Lay w) :
    Calls Tryz.prog 17 #[.string a, .int .i64 (n : Nat), .bool true] w fun e w' => (∃ g, e = .returned (.slice (some ⟨g, 0, none⟩) (2 * n + 2) (2 * n + 2)) ∧ Arr .i64 3 w' g (tlL N D true n (allW n))) ∧ Below w.heap.size w w' := by
  have P1 := fun (x : List UInt8) (hx : x ∈ allW n) V hV => hid (g_One V a (tb x) ha (by rw [tb_size, allW_len hx]; omega) hV)
  have P2 := fun (x : List UInt8) (hx : x ∈ allW n) V hV => hid (g_Two V a (tb x) ha (by rw [tb_size, allW_len hx]; omega) hV)
  have HE1 : Hid (∀ x ∈ allW n, gE a (tb x) = 0 ∧ oT a (tb x) = drT N D false x ∧ wT a (tb x) = drT N D true x) := fun x hx => by
    have e1 := gE_word he hx (by omega)
    refine ⟨e1, ?_, ?_⟩
    · unfold oT drT; rw [if_pos e1, tb_list, hN, hD]; rfl
    · unfold wT drT; rw [if_pos e1, tb_list, hN, hD]; rfl
  have HD : Hid (∀ two x, x ∈ allW n → ∃ u : Nat, u ≤ n ∧ ((valT N D two x = none ∧ drT N D two x = (false, 0, (u : Int))) ∨ (∃ v : Int, -(n : Int) ≤ v ∧ v ≤ n ∧ valT N D two x = some v ∧ drT N D two x = (true, v, (u : Int))))) := fun two x hx => by
    have := drT_is hND two x
    rwa [allW_len hx] at this
  have HTD := hid (fun (W : List (List UInt8)) l v (h : valT N D true l = some v) (h1 : -(n : Int) ≤ v) (h2 : v ≤ n) => tlL_done (two := true) (n := n) (W := W) h h1 h2)
  have HTL := hid (fun (W : List (List UInt8)) l (h : valT N D true l = none) => tlL_late (two := true) (n := n) (W := W) h)
  have HTX : Hid (∀ (W : List (List UInt8)) i x, (tlL N D true n W)[i]? = some x → x ≤ W.length) := fun W i x h => tlL_le h
  have HT0 := hid (tlL_nil N D true n)
  have HTLN := hid (tlL_len N D true n)
  obtain ⟨TL, hTL⟩ : ∃ f, tlL N D true n = f := ⟨_, rfl⟩
  rw [hTL] at HT0 HTLN HTD HTL HTX ⊢
  have PA := fun V => hid (r3_All V n (by omega))
  have hp : 2 ^ n ≤ 256 := Nat.le_trans (Nat.pow_le_pow_right (by omega) hn) (by decide)
  obtain ⟨M, hM⟩ : ∃ M, 2 ^ n = M := ⟨_, rfl⟩
  have HM := hid hM
  have HAL := hid (show (allW n).length = M by rw [allW_length, hM])
  rw [hM] at hp
  have hmk := make_ints (2 * n + 2) (by omega)
  obtain ⟨K, hK⟩ : ∃ K, 2 * n + 2 = K := ⟨_, rfl⟩
  have HK := hid hK
  rw [hK] at hmk HT0 ⊢
  have w1 : IntKind.i64.wrap (2 * (n : Int)) = 2 * (n : Int) := by rw [IntWalk.i64_in _ ⟨by omega, by omega⟩]
  have w2 : IntKind.i64.wrap (2 * (n : Int) + 2) = (K : Int) := by rw [IntWalk.i64_in _ ⟨by omega, by omega⟩]; omega
  have w3 : IntKind.i64.wrap (2 * (n : Int) + 1) = ((2 * n + 1 : Nat) : Int) := by rw [IntWalk.i64_in _ ⟨by omega, by omega⟩]; omega
  have wn : IntKind.i64.wrap (-(n : Int)) = -(n : Int) := by rw [IntWalk.i64_in _ ⟨by omega, by omega⟩]
  have HL := hid hL; have HN := hid hn
  clear ha he hN hD hND hL hTL hM hn hK
  go_enter Tryz.func17, Tryz.ntmps17
  go_wp2_with fail
  refine (PA _).out.mono ?_; rintro e w4 ⟨⟨v4, rfl, hv4⟩, hb4⟩
  have y4 := hid hb4
  have V4 := hid hv4
  obtain ⟨a4, k4, rfl, s1, s2, -⟩ := hv4.openS
  rw [List.length_map, HAL.out] at V4 s1 ⊢
  clear hb4 hv4
  go_wp2_with fail
  have X4 := Blk.new w4 (madeCells #[.int .i64 0] K) 3
  have B4 := hid ((Below.refl w4.heap.size w4).alloc (Nat.le_refl _) (.cells (madeCells #[.int .i64 0] K) 3))
  rw [made_ints] at X4 B4 ⊢
  have X5 := hid (show Arr .i64 3 _ w4.heap.size (TL ((allW n).take 0)) by rw [List.take_zero, HT0.out]; exact X4)
  have V5 := hid (V4.out.call B4.out)
  have y5 := hid (bnext y4.out B4.out)
  obtain ⟨w5, hw5⟩ : ∃ w5, w4.alloc (.cells (ints .i64 (List.replicate K 0)).toArray 3) = w5 := ⟨_, rfl⟩
  obtain ⟨g, hgg⟩ : ∃ g, w4.heap.size = g := ⟨_, rfl⟩
  rw [hw5] at X5 V5 y5 ⊢
  rw [hgg] at X5 ⊢
  have G1 : Hid (w4.heap.size ≤ g) := by rw [← hgg]; exact Nat.le_refl _
  have W5 : Hid (Below g w4 w5) := by rw [← hgg, ← hw5]; exact (Below.refl w4.heap.size w4).alloc (Nat.le_refl _) _
  clear X4 B4 hw5 hgg
  go_loopw [10] (fun s10 wr => ∃ j : Nat, s10 = .int .i64 (j : Nat) ∧ j ≤ M ∧ Hid (Arr .i64 3 wr g (TL ((allW n).take j))) ∧ Hid (Below g w4 wr)) (fun s10 wr => M - (intOf s10).toNat)
  case atStart => exact ⟨0, rfl, Nat.zero_le _, X5, W5⟩
  case round =>
    obtain ⟨j, rfl, hj, hX, hB⟩ := hrel
    have hB4 := hid (hB.out.mono G1.out)
    have yr := hid (bnext y4.out hB4.out)
    by_cases hlt : j < M
    · obtain ⟨x, hx⟩ : ∃ x, (allW n)[j]? = some x := ⟨_, List.getElem?_eq_getElem (by rw [HAL.out]; exact hlt)⟩
      have hxm := List.mem_of_getElem? hx
      obtain ⟨g', o, rfl, hg', hc⟩ := V4.out.at (strs_get (show ((allW n).map tb)[j]? = some (tb x) by rw [List.getElem?_map, hx]; rfl))
      have hc2 := (hB4.out.cell (p := ⟨g', o + j, none⟩) hg').trans hc
      have HT : Hid ((allW n).take (j + 1) = (allW n).take j ++ [x]) := by show (allW n).take (j + 1) = _; rw [List.take_add_one, hx]; rfl
      have HTN : Hid (((allW n).take j).length = j) := by show _ = _; rw [List.length_take, HAL.out]; omega
      obtain ⟨e1, e2, e3⟩ := HE1.out x hxm
      have Q1 := fun V hV => P1 x hxm V hV
      have Q2 := fun V hV => P2 x hxm V hV
      rw [e1, e2] at Q1
      rw [e1, e3] at Q2
      have b1 : (0 : Int) ≤ (j : Int) := by omega
      have b2 : (j : Int) < (M : Int) := by omega
      have wi : IntKind.i64.wrap ((j : Int) + 1) = ((j + 1 : Nat) : Int) := by rw [IntWalk.i64_in _ ⟨by omega, by omega⟩]; omega
      have cg : ∀ W, Below wr.heap.size wr W → W.cell? ⟨g', o + j, none⟩ = some (.string (tb x)) := fun W hW => (hW.cell (cell_lt hc2)).trans hc2
      have CG := hid cg
      obtain ⟨X, hXX⟩ : ∃ X, tb x = X := ⟨_, rfl⟩
      rw [hXX] at Q1 Q2 hc2 CG
      obtain ⟨u0, hu0, hcase⟩ := HD.out true x hxm
      have JL := hid hlt
      have HGX : Hid (g < wr.heap.size) := hX.out.lt
      obtain ⟨⟨c1, c2, c3⟩, hcc⟩ : ∃ t, drT N D false x = t := ⟨_, rfl⟩
      rw [hcc] at Q1
      clear hcc
      clear hx hg' hc e1 e2 e3 hXX cg hj hlt
      rcases hcase with ⟨hvn, hdr⟩ | ⟨v, hv1, hv2, hvs, hdr⟩
      · rw [hdr] at Q2
        simp only [d3] at Q1 Q2
        obtain ⟨y, hy1, hy2⟩ := HTL.out ((allW n).take j) x hvn
        have hyb := HTX.out _ _ _ hy1
        rw [HTN.out] at hyb
        have HY2 := hid hy2; have HY1 := hid hy1
        have m0 : decide ((u0 : Int) < 0) = false := by simp
        have m1 : decide ((n : Int) < (u0 : Int)) = false := by simp; omega
        have m1' : decide (n < u0) = false := by simp; omega
        have m2 : decide ((0 : Int) < -(n : Int)) = false := by simp
        have m3 : decide ((n : Int) < 0) = false := by simp
        have i1 : (0 : Int) ≤ ((2 * n + 1 : Nat) : Int) := by omega
        have i2 : ((2 * n + 1 : Nat) : Int) < (K : Int) := by have := HK.out; omega
        have wk : IntKind.i64.wrap ((y : Int) + 1) = ((y + 1 : Nat) : Int) := by rw [IntWalk.i64_in _ ⟨by omega, by omega⟩]; omega
        obtain ⟨z, hz⟩ : ∃ z, 2 * n + 1 = z := ⟨_, rfl⟩
        rw [hz] at i1 i2 w3 HY1 HY2
        clear hvn hdr hy1 hy2 hyb hz hu0
        go_wp2_with fail
        refine (Q1 _ (HL.out.call yr.out)).out.mono ?_; rintro e w6 ⟨rfl, hb6⟩
        have A6 := hid (show Below wr.heap.size wr (w6.alloc (.cells #[.bool c1, .int .i64 c2, .int .i64 c3] 46)) from hb6.alloc hb6.size _)
        have K6 := hid (Blk.new w6 #[.bool c1, .int .i64 c2, .int .i64 c3] 46)
        have Z6 := hid hb6.size
        have hc3 := CG.out _ A6.out
        obtain ⟨wa, hwa⟩ : ∃ W, w6.alloc (.cells #[.bool c1, .int .i64 c2, .int .i64 c3] 46) = W := ⟨_, rfl⟩
        have SZ : Hid (wa.heap.size = w6.heap.size + 1) := by show wa.heap.size = _; rw [← hwa]; simp
        obtain ⟨gx, hgx⟩ : ∃ g, w6.heap.size = g := ⟨_, rfl⟩
        rw [hwa] at A6 K6 hc3
        rw [hgx] at K6 Z6 SZ
        clear hb6
        go_wp2_with fail
        try rw [hwa]
        try rw [hgx]
        clear hwa hgx
        refine (Q2 _ (HL.out.call (bnext yr.out A6.out))).out.mono ?_; rintro e w7 ⟨rfl, hb7⟩
        have A7 := hid (bnext A6.out hb7)
        have K7 := hid (K6.out.call hb7)
        have f0 := K7.out.free 0
        have n0 := K7.out.cell 0
        have KA := K7.out.set 0 (.bool false)
        have f1 := KA.free 1
        have n1 := KA.cell 1
        have KB := KA.set 1 (.int .i64 0)
        have f2 := KB.free 2
        have n2 := KB.cell 2
        simp at n0 n1 n2
        have S7 := hid (show gx < w7.heap.size from Blk.lt K7.out)
        clear hb7 hc3
        have K8 := KB.set 2 (.int .i64 (u0 : Nat))
        have k0 := K8.cell 0
        have k1 := K8.cell 1
        have k2 := K8.cell 2
        simp at k0 k1 k2
        have X6 := hid (show Arr .i64 3 _ g (TL ((allW n).take j)) from Blk.other (a := ⟨gx, 2, none⟩) (Blk.other (a := ⟨gx, 1, none⟩) (Blk.other (a := ⟨gx, 0, none⟩) (hX.out.call A7.out) (by have := HGX.out; have := Z6.out; simp; omega) (.bool false)) (by have := HGX.out; have := Z6.out; simp; omega) (.int .i64 0)) (by have := HGX.out; have := Z6.out; simp; omega) (.int .i64 (u0 : Nat)))
        have B6 := hid ((((hB.out.trans (A7.out.mono (Nat.le_of_lt HGX.out))).setCell (p := ⟨gx, 0, none⟩) (by have := HGX.out; have := Z6.out; simp; omega) (.bool false)).setCell (p := ⟨gx, 1, none⟩) (by have := HGX.out; have := Z6.out; simp; omega) (.int .i64 0)).setCell (p := ⟨gx, 2, none⟩) (by have := HGX.out; have := Z6.out; simp; omega) (.int .i64 (u0 : Nat)))
        clear K8 KA KB
        clear hc2
        have t1 := X6.out.cell HY1.out
        have t2 := X6.out.free z
        have X7 := hid (X6.out.set z (y + 1))
        have B7 := hid (below_set B6.out (g := g) (i := z) (Nat.le_refl _) (.int .i64 ((y + 1 : Nat) : Int)))
        go_wp2_with fail
        go_roundw
        case rel => exact ⟨j + 1, by go_num, by have := JL.out; omega, by rw [HT.out, HY2.out]; exact X7, B7⟩
        case measure => simp [intOf] <;> (have := JL.out; omega)
      · rw [hdr] at Q2
        simp only [d3] at Q1 Q2
        obtain ⟨y, hy1, hy2⟩ := HTD.out ((allW n).take j) x v hvs hv1 hv2
        have hyb := HTX.out _ _ _ hy1
        rw [HTN.out] at hyb
        have HY2 := hid hy2; have HY1 := hid hy1
        have m0 : decide ((u0 : Int) < 0) = false := by simp
        have m1 : decide ((n : Int) < (u0 : Int)) = false := by simp; omega
        have m1' : decide (n < u0) = false := by simp; omega
        have m2 : decide (v < -(n : Int)) = false := by simp; omega
        have m3 : decide ((n : Int) < v) = false := by simp; omega
        obtain ⟨z, hz⟩ : ∃ z, ((n : Int) + v).toNat = z := ⟨_, rfl⟩
        have hz2 : (n : Int) + v = (z : Int) := by omega
        have wz : IntKind.i64.wrap ((n : Int) + v) = (z : Int) := by have := HN.out; rw [IntWalk.i64_in _ ⟨by omega, by omega⟩]; exact hz2
        have i1 : (0 : Int) ≤ (z : Int) := by omega
        have i2 : (z : Int) < (K : Int) := by have := HK.out; omega
        have wk : IntKind.i64.wrap ((y : Int) + 1) = ((y + 1 : Nat) : Int) := by rw [IntWalk.i64_in _ ⟨by omega, by omega⟩]; omega
        rw [hz] at HY1 HY2
        clear hvs hdr hy1 hy2 hyb hz hz2 hu0 hv1 hv2
        go_wp2_with fail
        refine (Q1 _ (HL.out.call yr.out)).out.mono ?_; rintro e w6 ⟨rfl, hb6⟩
        have A6 := hid (show Below wr.heap.size wr (w6.alloc (.cells #[.bool c1, .int .i64 c2, .int .i64 c3] 46)) from hb6.alloc hb6.size _)
        have K6 := hid (Blk.new w6 #[.bool c1, .int .i64 c2, .int .i64 c3] 46)
        have Z6 := hid hb6.size
        have hc3 := CG.out _ A6.out
        obtain ⟨wa, hwa⟩ : ∃ W, w6.alloc (.cells #[.bool c1, .int .i64 c2, .int .i64 c3] 46) = W := ⟨_, rfl⟩
        have SZ : Hid (wa.heap.size = w6.heap.size + 1) := by show wa.heap.size = _; rw [← hwa]; simp
        obtain ⟨gx, hgx⟩ : ∃ g, w6.heap.size = g := ⟨_, rfl⟩
        rw [hwa] at A6 K6 hc3
        rw [hgx] at K6 Z6 SZ
        clear hb6
        go_wp2_with fail
        try rw [hwa]
        try rw [hgx]
        clear hwa hgx
        refine (Q2 _ (HL.out.call (bnext yr.out A6.out))).out.mono ?_; rintro e w7 ⟨rfl, hb7⟩
        have A7 := hid (bnext A6.out hb7)
        have K7 := hid (K6.out.call hb7)
        have f0 := K7.out.free 0
        have n0 := K7.out.cell 0
        have KA := K7.out.set 0 (.bool true)
        have f1 := KA.free 1
        have n1 := KA.cell 1
        have KB := KA.set 1 (.int .i64 v)
        have f2 := KB.free 2
        have n2 := KB.cell 2
        simp at n0 n1 n2
        have S7 := hid (show gx < w7.heap.size from Blk.lt K7.out)
        clear hb7 hc3
        have K8 := KB.set 2 (.int .i64 (u0 : Nat))
        have k0 := K8.cell 0
        have k1 := K8.cell 1
        have k2 := K8.cell 2
        simp at k0 k1 k2
        have X6 := hid (show Arr .i64 3 _ g (TL ((allW n).take j)) from Blk.other (a := ⟨gx, 2, none⟩) (Blk.other (a := ⟨gx, 1, none⟩) (Blk.other (a := ⟨gx, 0, none⟩) (hX.out.call A7.out) (by have := HGX.out; have := Z6.out; simp; omega) (.bool true)) (by have := HGX.out; have := Z6.out; simp; omega) (.int .i64 v)) (by have := HGX.out; have := Z6.out; simp; omega) (.int .i64 (u0 : Nat)))
        have B6 := hid ((((hB.out.trans (A7.out.mono (Nat.le_of_lt HGX.out))).setCell (p := ⟨gx, 0, none⟩) (by have := HGX.out; have := Z6.out; simp; omega) (.bool true)).setCell (p := ⟨gx, 1, none⟩) (by have := HGX.out; have := Z6.out; simp; omega) (.int .i64 v)).setCell (p := ⟨gx, 2, none⟩) (by have := HGX.out; have := Z6.out; simp; omega) (.int .i64 (u0 : Nat)))
        clear K8 KA KB
        clear hc2
        have t1 := X6.out.cell HY1.out
        have t2 := X6.out.free z
        have X7 := hid (X6.out.set z (y + 1))
        have B7 := hid (below_set B6.out (g := g) (i := z) (Nat.le_refl _) (.int .i64 ((y + 1 : Nat) : Int)))
        go_wp2_with fail
        go_roundw
        case rel => exact ⟨j + 1, by go_num, by have := JL.out; omega, by rw [HT.out, HY2.out]; exact X7, B7⟩
        case measure => simp [intOf] <;> (have := JL.out; omega)
    · obtain rfl : j = M := by omega
      have q1 : decide ((j : Int) < (j : Int)) = false := by simp
      have hT : (allW n).take j = allW n := List.take_of_length_le (by rw [HAL.out]; exact Nat.le_refl _)
      rw [hT] at hX
      clear hlt hT
      go_wp2_with fail
      go_ret
      exact ⟨⟨g, rfl, hX.out⟩, yr.out⟩
end Go.Proofs.YtccalhlhdiapiaaGreatDoor
namespace Go.Proofs.YtccalhlhdiapiaaGreatDoor
open Go.RowKit
set_option linter.unusedVariables false
set_option linter.unusedSimpArgs false
/-- The six cells of two fractions that lie in the blocks b and b + 1. -/
def twoF (b : Nat) (m1 m2 : Bool) (n1 d1 n2 d2 : Value) (w : World) : Prop :=
  w.cell? ⟨b, 0, none⟩ = some (.bool m1) ∧ w.cell? ⟨b, 1, none⟩ = some n1 ∧ w.cell? ⟨b, 2, none⟩ = some d1 ∧ w.cell? ⟨b + 1, 0, none⟩ = some (.bool m2) ∧ w.cell? ⟨b + 1, 1, none⟩ = some n2 ∧ w.cell? ⟨b + 1, 2, none⟩ = some d2
/-- Three blocks are laid: two fractions and a result. -/
structure Three (w W : World) (m1 m2 : Bool) (n1 d1 n2 d2 : Value) : Prop where
  below : Below w.heap.size w W
  size : W.heap.size = w.heap.size + 3
  b0 : Blk W w.heap.size #[.bool m1, n1, d1] 125
  b1 : Blk W (w.heap.size + 1) #[.bool m2, n2, d2] 125
  b2 : Blk W (w.heap.size + 1 + 1) #[.bool false, .slice none 0 0, .slice none 0 0] 125
theorem Three.mk' {w W : World} {m1 m2 : Bool} {n1 d1 n2 d2 : Value} (h : ((w.alloc (.cells #[.bool m1, n1, d1] 125)).alloc (.cells #[.bool m2, n2, d2] 125)).alloc (.cells #[.bool false, .slice none 0 0, .slice none 0 0] 125) = W) : Three w W m1 m2 n1 d1 n2 d2 := by
  subst h
  exact ⟨(((Below.refl _ _).alloc (Nat.le_refl _) _).alloc (by simp) _).alloc (by simp; omega) _, by simp, ((Blk.new w _ _).alloc _).alloc _, (Blk.made (w.alloc _) _ _ (by simp)).alloc _, Blk.made ((w.alloc _).alloc _) _ _ (by simp)⟩
theorem Three.cells {w W V : World} {m1 m2 : Bool} {n1 d1 n2 d2 : Value} (h : Three w W m1 m2 n1 d1 n2 d2) (hb : Below W.heap.size W V) : twoF w.heap.size m1 m2 n1 d1 n2 d2 V :=
  have y0 := h.b0.call hb
  have y1 := h.b1.call hb
  ⟨y0.cell 0, y0.cell 1, y0.cell 2, y1.cell 0, y1.cell 1, y1.cell 2⟩
end Go.Proofs.YtccalhlhdiapiaaGreatDoor
namespace Go.Proofs.YtccalhlhdiapiaaGreatDoor
open Go.RowKit Go.Shelf
open Go.Lib (decDigits nDigits)
set_option linter.unusedVariables false
set_option linter.unusedSimpArgs false
/-- A rational number of few limbs. -/
structure Sml (K : Nat) (q : Rat) : Prop where
  n : (limbs q.num.natAbs).length ≤ K
  d : (limbs q.den).length ≤ K
theorem Sml.up {K L : Nat} {q : Rat} (h : Sml K q) (hl : K ≤ L) : Sml L q := ⟨Nat.le_trans h.n hl, Nat.le_trans h.d hl⟩
end Go.Proofs.YtccalhlhdiapiaaGreatDoor
