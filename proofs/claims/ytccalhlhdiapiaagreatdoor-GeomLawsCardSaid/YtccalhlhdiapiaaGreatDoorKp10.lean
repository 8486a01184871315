/- Texts that the proof rests on, merged: Pl2, Pl3, Pl4, Pl5, Pl6, Pn3, Pn4, Cv7, Cv8, E5, NpG, Lt, Lv0, Pn6, Pc2, Gt0, Gn1, Ol, R1e, Rp10, Rp11, Rp12, Rp13, Lr0. -/
import Derived.Test.YtccalhlhdiapiaaGreatDoorKp9
import Derived.Maps.Own
import Derived.Maps.OwnIn
import Derived.Sort.CutIn
import Derived.Sort.KeysCollected
import Derived.Test.YtccalhlhdiapiaaGreatDoorProg
import Derived.Maps.StringElems
import Derived.Lib.ItoaMem
import Derived.WalkLawsBesides
import Derived.Sort.Walk0
import Derived.Deep.DeepCutAuto
import Derived.Deep.AppendLies
namespace Go.Proofs.YtccalhlhdiapiaaGreatDoor
open Go.RowKit Go.Shelf
open Go.Lib (decDigits nDigits)
set_option linter.unusedVariables false
set_option linter.unusedSimpArgs false
structure MRow (w : World) (v : Value) (L : List (ByteArray × ByteArray)) : Prop where
  ex : ∃ a c, v = .slice a L.length c ∧ L.length ≤ c ∧ c ≤ 9223372036854775807 ∧ ∀ (i : Nat) (x : ByteArray × ByteArray), L[i]? = some x → ∃ g o, a = some ⟨g, o, none⟩ ∧ g < w.heap.size ∧ w.cell? ⟨g, o + 2 * i, none⟩ = some (.string x.1) ∧ w.cell? ⟨g, o + 2 * i + 1, none⟩ = some (.string x.2)
theorem MRow.call {w w' : World} {v : Value} {L : List (ByteArray × ByteArray)} (h : MRow w v L) (hb : Below w.heap.size w w') : MRow w' v L := by
  obtain ⟨a, c, rfl, h1, h2, h3⟩ := h.ex
  refine ⟨a, c, rfl, h1, h2, fun i x hx => ?_⟩
  obtain ⟨g, o, rfl, hg, k1, k2⟩ := h3 i x hx
  exact ⟨g, o, rfl, Nat.lt_of_lt_of_le hg hb.size, (hb.cell (p := ⟨g, o + 2 * i, none⟩) hg).trans k1, (hb.cell (p := ⟨g, o + 2 * i + 1, none⟩) hg).trans k2⟩
theorem MRow.nil (w : World) : MRow w (.slice none 0 0) [] := ⟨none, 0, rfl, Nat.le_refl _, by omega, fun i x h => by simp at h⟩
theorem ne_tl {x y : ByteArray} (h : ¬ x = y) : ¬ x.toList = y.toList := fun e => h (by
  rw [Lib.toList_data, Lib.toList_data] at e
  exact ba_ext e)
set_option maxRecDepth 100000 in
set_option maxHeartbeats 2000000 in
theorem k_SameM (w : World) (v u : Value) (L M : List (ByteArray × ByteArray)) (hv : MRow w v L) (hu : MRow w u M) :
    Calls Tryz.prog 16 #[v, u] w fun e w' => e = .returned (.bool (decide (L = M))) ∧ Below w.heap.size w w' := by
  obtain ⟨a, c, rfl, h1, h2, h3⟩ := hv.ex
  obtain ⟨a', c', rfl, h1', h2', h3'⟩ := hu.ex
  obtain ⟨n, hn⟩ : ∃ n, L.length = n := ⟨_, rfl⟩
  obtain ⟨m, hm⟩ : ∃ n, M.length = n := ⟨_, rfl⟩
  rw [hn] at h1 ⊢
  rw [hm] at h1' ⊢
  have H3 := hid h3; have H3' := hid h3'; have HN := hid hn; have HM := hid hm
  clear hv hu h3 h3'
  by_cases hnm : n = m
  · subst hnm
    have q0 : ((n : Int) != (n : Int)) = false := by simp
    clear hn hm
    go_enter Tryz.func16, Tryz.ntmps16
    go_wp2_with fail
    go_loopw [5] (fun ii wr => ∃ i : Nat, ii = .int .i64 (i : Nat) ∧ i ≤ n ∧ Hid (∀ j, j < i → L[j]? = M[j]?) ∧ Hid (Below w.heap.size w wr)) (fun ii wr => n - (intOf ii).toNat)
    case atStart => exact ⟨0, rfl, Nat.zero_le _, fun j hj => absurd hj (by omega), Below.refl _ _⟩
    case round =>
      obtain ⟨i, rfl, hi, hI, hB⟩ := hrel
      by_cases hlt : i < n
      · obtain ⟨x, hx⟩ : ∃ x, L[i]? = some x := ⟨_, List.getElem?_eq_getElem (by rw [HN.out]; exact hlt)⟩
        obtain ⟨y, hy⟩ : ∃ x, M[i]? = some x := ⟨_, List.getElem?_eq_getElem (by rw [HM.out]; exact hlt)⟩
        obtain ⟨g, o, rfl, hg, k1, k2⟩ := H3.out i x hx
        obtain ⟨g', o', rfl, hg', k1', k2'⟩ := H3'.out i y hy
        obtain ⟨x1, x2⟩ := x
        obtain ⟨y1, y2⟩ := y
        have HX := hid hx; have HY := hid hy
        have m1 := (hB.out.cell (p := ⟨g, o + 2 * i, none⟩) hg).trans k1
        have m2 := (hB.out.cell (p := ⟨g, o + 2 * i + 1, none⟩) hg).trans k2
        have m3 := (hB.out.cell (p := ⟨g', o' + 2 * i, none⟩) hg').trans k1'
        have m4 := (hB.out.cell (p := ⟨g', o' + 2 * i + 1, none⟩) hg').trans k2'
        dsimp only at m1 m2 m3 m4
        rw [Nat.mul_comm 2 i] at m1 m2 m3 m4
        have b1 : (0 : Int) ≤ (i : Int) := by omega
        have b2 : (i : Int) < (n : Int) := by omega
        have wi : IntKind.i64.wrap ((i : Int) + 1) = (i : Int) + 1 := by rw [IntWalk.i64_in _ ⟨by omega, by omega⟩]
        clear k1 k2 k1' k2' hx hy hg hg'
        by_cases he1 : x1 = y1
        · subst he1
          by_cases he2 : x2 = y2
          · subst he2
            go_wp2_with fail
            refine held_plain [0, 1, 2, 3, 4, 5, 6, 7, 8] 0 (fun w' => w'.cell? ⟨g, o + i * 2, none⟩ = some (.string x1) ∧ w'.cell? ⟨g, o + i * 2 + 1, none⟩ = some (.string x2) ∧ w'.cell? ⟨g', o' + i * 2, none⟩ = some (.string x1) ∧ w'.cell? ⟨g', o' + i * 2 + 1, none⟩ = some (.string x2)) (by kernel_rfl) (by kernel_rfl) (by kernel_rfl) (by kernel_rfl) ⟨m1, m2, m3, m4⟩ ?_
            iterate 9
              refine ⟨_, rfl, ?_⟩
              apply Exists.intro
              refine ⟨.inl ⟨by rfl, ?_⟩, ?_⟩
              · (intro W' hW'; obtain ⟨q1, q2, q3, q4⟩ := hW'; go_simp; try (with_reducible rfl))
              (dsimp only [Act.put]; try simp only [List.setIfInBounds_toArray, List.set_cons_zero, List.set_cons_succ])
            refine wpAnyH_done (by kernel_rfl) ?_ _
            simp only [Only]
            go_wp2_with fail
            go_roundw
            case rel => exact ⟨i + 1, rfl, by omega, fun j hj => by
              rcases Nat.lt_or_ge j i with h | h
              · exact hI.out j h
              · obtain rfl : j = i := by omega
                rw [HX.out, HY.out], hB.out.drew⟩
            case measure => simp [intOf] <;> omega
          · have n2 := ne_tl he2
            have hne : decide (L = M) = false := by
              rw [decide_eq_false_iff_not]; rintro rfl
              have := HX.out.symm.trans HY.out
              simp only [Option.some.injEq, Prod.mk.injEq] at this
              exact he2 this.2
            have HNE := hid hne
            clear hne he2
            go_wp2_with fail
            refine held_plain [0, 1, 2, 3, 4, 5, 6, 7, 8] 0 (fun w' => w'.cell? ⟨g, o + i * 2, none⟩ = some (.string x1) ∧ w'.cell? ⟨g, o + i * 2 + 1, none⟩ = some (.string x2) ∧ w'.cell? ⟨g', o' + i * 2, none⟩ = some (.string x1) ∧ w'.cell? ⟨g', o' + i * 2 + 1, none⟩ = some (.string y2)) (by kernel_rfl) (by kernel_rfl) (by kernel_rfl) (by kernel_rfl) ⟨m1, m2, m3, m4⟩ ?_
            iterate 9
              refine ⟨_, rfl, ?_⟩
              apply Exists.intro
              refine ⟨.inl ⟨by rfl, ?_⟩, ?_⟩
              · (intro W' hW'; obtain ⟨q1, q2, q3, q4⟩ := hW'; go_simp; try (with_reducible rfl))
              (dsimp only [Act.put]; try simp only [List.setIfInBounds_toArray, List.set_cons_zero, List.set_cons_succ])
            refine wpAnyH_done (by kernel_rfl) ?_ _
            simp only [Only]
            go_wp2_with fail
            go_ret
            exact ⟨by rw [HNE.out]; rfl, hB.out.drew⟩
        · have n1 := ne_tl he1
          have hne : decide (L = M) = false := by
            rw [decide_eq_false_iff_not]; rintro rfl
            have := HX.out.symm.trans HY.out
            simp only [Option.some.injEq, Prod.mk.injEq] at this
            exact he1 this.1
          have HNE := hid hne
          clear hne he1
          go_wp2_with fail
          refine held_plain [0, 1, 2, 3, 4, 5, 6, 7, 8] 0 (fun w' => w'.cell? ⟨g, o + i * 2, none⟩ = some (.string x1) ∧ w'.cell? ⟨g, o + i * 2 + 1, none⟩ = some (.string x2) ∧ w'.cell? ⟨g', o' + i * 2, none⟩ = some (.string y1) ∧ w'.cell? ⟨g', o' + i * 2 + 1, none⟩ = some (.string y2)) (by kernel_rfl) (by kernel_rfl) (by kernel_rfl) (by kernel_rfl) ⟨m1, m2, m3, m4⟩ ?_
          iterate 9
            refine ⟨_, rfl, ?_⟩
            apply Exists.intro
            refine ⟨.inl ⟨by rfl, ?_⟩, ?_⟩
            · (intro W' hW'; obtain ⟨q1, q2, q3, q4⟩ := hW'; go_simp; try (with_reducible rfl))
            (dsimp only [Act.put]; try simp only [List.setIfInBounds_toArray, List.set_cons_zero, List.set_cons_succ])
          refine wpAnyH_done (by kernel_rfl) ?_ _
          simp only [Only]
          go_wp2_with fail
          go_ret
          exact ⟨by rw [HNE.out]; rfl, hB.out.drew⟩
      · obtain rfl : i = n := by omega
        have hE : L = M := by
          apply List.ext_getElem?
          intro j
          by_cases hj : j < i
          · exact hI.out j hj
          · rw [List.getElem?_eq_none (by rw [HN.out]; omega), List.getElem?_eq_none (by rw [HM.out]; omega)]
        have HE := hid hE
        have q1 : decide ((i : Int) < (i : Int)) = false := by simp
        clear hlt hE
        go_wp2_with fail
        go_ret
        exact ⟨by rw [decide_eq_true HE.out]; rfl, hB.out⟩
  · have q0 : ((n : Int) != (m : Int)) = true := by rw [bne_iff_ne]; omega
    have hne : decide (L = M) = false := by
      rw [decide_eq_false_iff_not]; rintro rfl; exact hnm (hn.symm.trans hm)
    have HNE := hid hne
    clear hne hnm hn hm
    go_enter Tryz.func16, Tryz.ntmps16
    go_wp2_with fail
    go_ret
    exact ⟨by rw [HNE.out]; rfl, Below.refl _ _⟩
end Go.Proofs.YtccalhlhdiapiaaGreatDoor
namespace Go.Proofs.YtccalhlhdiapiaaGreatDoor
open Go.RowKit Go.Shelf Go.Maps
open Go.Lib (decDigits nDigits)
set_option linter.unusedVariables false
set_option linter.unusedSimpArgs false
attribute [local go_sem] Oper.semAt_some
def lateB : ByteArray := ⟨#[108, 97, 116, 101]⟩
end Go.Proofs.YtccalhlhdiapiaaGreatDoor
namespace Go.Proofs.YtccalhlhdiapiaaGreatDoor
open Go.RowKit Go.Maps
open Go.Lib (decDigits nDigits)
set_option linter.unusedVariables false
def keyL (p : ByteArray × ByteArray) : List UInt8 := p.1.data.toList
def sortM (L : List (ByteArray × ByteArray)) : List (ByteArray × ByteArray) := L.mergeSort (fun p q => leB (keyL p) (keyL q))
theorem sortM_mem {L : List (ByteArray × ByteArray)} {p : ByteArray × ByteArray} : p ∈ sortM L ↔ p ∈ L := List.mem_mergeSort
theorem sortM_length (L : List (ByteArray × ByteArray)) : (sortM L).length = L.length := List.length_mergeSort L
theorem leB_trans : ∀ a b c : List UInt8, leB a b = true → leB b c = true → leB a c = true := fun a b c h1 h2 => by simp only [leB, decide_eq_true_eq] at *; exact List.le_trans h1 h2
theorem leB_total : ∀ a b : List UInt8, (leB a b || leB b a) = true := fun a b => by simp only [leB, Bool.or_eq_true, decide_eq_true_eq]; exact List.le_total a b
theorem sortM_sorted (L : List (ByteArray × ByteArray)) : (sortM L).Pairwise (fun p q => leB (keyL p) (keyL q) = true) :=
  List.pairwise_mergeSort (le := fun p q => leB (keyL p) (keyL q)) (fun a b c => leB_trans (keyL a) (keyL b) (keyL c)) (fun a b => leB_total (keyL a) (keyL b)) L
def massC (L : List (ByteArray × ByteArray)) : List Value := L.flatMap (fun p => [.string p.1, .string p.2])
theorem massC_length (L : List (ByteArray × ByteArray)) : (massC L).length = L.length * 2 := by
  unfold massC
  induction L with
  | nil => rfl
  | cons p r ih => rw [List.flatMap_cons, List.length_append, ih, List.length_cons]; simp; omega
theorem massC_append (L M : List (ByteArray × ByteArray)) : massC (L ++ M) = massC L ++ massC M := by simp [massC]
theorem massC_get {L : List (ByteArray × ByteArray)} : ∀ {i : Nat} {p : ByteArray × ByteArray}, L[i]? = some p → (massC L)[2 * i]? = some (.string p.1) ∧ (massC L)[2 * i + 1]? = some (.string p.2) := by
  induction L with
  | nil => intro i p h; simp at h
  | cons q r ih =>
    intro i p h
    cases i with
    | zero => simp at h; subst h; exact ⟨rfl, rfl⟩
    | succ i =>
      have h' : r[i]? = some p := by simpa using h
      obtain ⟨h1, h2⟩ := ih h'
      have e : massC (q :: r) = [.string q.1, .string q.2] ++ massC r := rfl
      rw [e, show 2 * (i + 1) = 2 + 2 * i by omega]
      constructor
      · rw [List.getElem?_append_right (by simp)]; simpa using h1
      · rw [List.getElem?_append_right (by simp <;> omega)]
        simp only [List.length_cons, List.length_nil]
        rw [show 2 + 2 * i + 1 - (0 + 1 + 1) = 2 * i + 1 by omega]
        exact h2
theorem MRow.of_owns {w : World} {base n : Nat} {e : TypeId} {v : Value} {L : List (ByteArray × ByteArray)} (h : w.ownsRow base e 2 v n (massC L)) : MRow w v L := by
  have hn : n = L.length := by have := h.1; rw [massC_length] at this; omega
  subst hn
  refine ⟨?_⟩
  have hh := h
  rcases h.2 with ⟨rfl, h0⟩ | ⟨g, cap, cur, rfl, hb, hg, h1, h2, h3, h4⟩
  · exact ⟨none, 0, by rw [h0], by omega, by omega, fun i x hx => by have := (List.getElem?_eq_some_iff.1 hx).1; omega⟩
  · refine ⟨some ⟨g, 0, none⟩, cap, rfl, h1, by unfold maxLen at h2; exact h2, fun i x hx => ⟨g, 0, rfl, (Array.getElem?_eq_some_iff.1 hg).1, ?_⟩⟩
    obtain ⟨m1, m2⟩ := massC_get hx
    have k1 := hh.cells rfl _ _ m1
    have k2 := hh.cells rfl _ _ m2
    rw [Addr.add_lit] at k1 k2
    rw [← Nat.add_assoc] at k2
    exact ⟨k1, k2⟩
theorem numB_late (i : Nat) : (numB i).data.toList ≠ lateB.data.toList := by
  intro e
  have h : (108 : UInt8) ∈ decDigits i := by
    rw [← numB_list, e]; decide
  exact absurd (allDig_dec i 108 h) (by decide)
end Go.Proofs.YtccalhlhdiapiaaGreatDoor
namespace Go.Proofs.YtccalhlhdiapiaaGreatDoor
open Go.RowKit Go.Shelf Go.Maps
open Go.Lib (decDigits nDigits)
set_option linter.unusedVariables false
set_option linter.unusedSimpArgs false
theorem info_mass : (Tryz.prog.info? 33).map (fun i => (i.zero, i.size, i.bytes)) = some (some (.agg #[.string ⟨#[]⟩, .string ⟨#[]⟩]), 2, 32) := by kernel_rfl
theorem zero_num (w : World) : (zeroValue 22).run Tryz.prog w = .ok (.string ⟨#[]⟩) w := by kernel_rfl
end Go.Proofs.YtccalhlhdiapiaaGreatDoor
namespace Go.Proofs.YtccalhlhdiapiaaGreatDoor
open Go.RowKit Go.Shelf Go.Maps
open Go.Lib (decDigits nDigits)
set_option linter.unusedVariables false
set_option linter.unusedSimpArgs false
theorem shB_zero (t : Nat) : shB 0 t = ⟨#[48]⟩ := by
  have e : qmk false 0 t = 0 := by unfold qmk sgn; simp
  have h1 : ¬ ovQ 0 := by
    have : nDigits 0 ≤ 4000 := by rw [nDigits_zero]; omega
    have : nDigits 1 ≤ 4000 := by rw [nDigits_one]; omega
    unfold ovQ
    rw [show (0 : Rat).num.natAbs = 0 from rfl, show (0 : Rat).den = 1 from rfl]
    omega
  unfold shB
  rw [e]
  unfold outB
  rw [if_neg h1]
  apply ba_ext
  rw [txQ, txB_list, show (0 : Rat).num.natAbs = 0 from rfl, show (0 : Rat).den = 1 from rfl, show decide ((0 : Rat).num < 0) = false from rfl, dec_zero]
  rfl
end Go.Proofs.YtccalhlhdiapiaaGreatDoor
namespace Go.Proofs.YtccalhlhdiapiaaGreatDoor
open Go.RowKit
open Go.Lib (decDigits nDigits)
set_option linter.unusedVariables false
theorem qmk_nat (a b : Nat) : qmk false a b = mkRat (a : Int) b := by unfold qmk sgn; rfl
theorem dig_frac {K : Nat} {z : Int} {d : Nat} (hd : d ≠ 0) (h1 : nDigits z.natAbs ≤ K) (h2 : nDigits d ≤ K) : Dig K (mkRat z d) :=
  dig_mk (Nat.pos_of_ne_zero hd) (Nat.lt_of_lt_of_le (Go.Lib.lt_pow_nDigits _) (Nat.pow_le_pow_right (by omega) h1)) (Nat.lt_of_lt_of_le (Go.Lib.lt_pow_nDigits _) (Nat.pow_le_pow_right (by omega) h2))
theorem shB_tx {a b : Nat} (hb : b ≠ 0) (h1 : nDigits a ≤ 4000) (h2 : nDigits b ≤ 4000) : shB a b = txQ (mkRat (a : Int) b) := by
  unfold shB
  rw [qmk_nat]
  exact outB_fits ((dig_frac hb (by simpa using h1) h2).fits (by omega) (by omega))
end Go.Proofs.YtccalhlhdiapiaaGreatDoor
namespace Go.Proofs.YtccalhlhdiapiaaGreatDoor
open Go.RowKit Go.Shelf
open Go.Lib (decDigits nDigits)
set_option linter.unusedVariables false
set_option linter.unusedSimpArgs false
theorem numB_inj {i j : Nat} (h : numB i = numB j) : i = j := by rw [← bN_num i, h, bN_num]
end Go.Proofs.YtccalhlhdiapiaaGreatDoor
namespace Go.Proofs.YtccalhlhdiapiaaGreatDoor
open Go.RowKit
open Go.Lib (decDigits nDigits)
set_option linter.unusedVariables false
set_option linter.unusedSimpArgs false
def zB (v : Int) : ByteArray := ⟨(Lib.itoa v).toArray⟩
theorem zB_list (v : Int) : (zB v).data.toList = Lib.itoa v := by simp [zB]
theorem zB_nat (n : Nat) : zB (n : Int) = numB n := by
  unfold zB numB
  rw [Lib.itoa_nonneg]
theorem decDigits_inj {a b : Nat} (h : decDigits a = decDigits b) : a = b := by
  have : numB a = numB b := by unfold numB; rw [h]
  exact numB_inj this
theorem zdec_head (n : Nat) (r : List UInt8) : decDigits n ≠ 45 :: r := fun h => by
  have := minus_dec n
  rw [h] at this
  simp [Lib.hasPrefix] at this
theorem zB_inj {v w : Int} (h : zB v = zB w) : v = w := by
  have h1 : Lib.itoa v = Lib.itoa w := by rw [← zB_list, ← zB_list, h]
  unfold Lib.itoa at h1
  split at h1 <;> split at h1
  · rename_i a b
    have := decDigits_inj (List.cons.inj h1).2
    omega
  · rename_i a b
    exact absurd h1.symm (zdec_head _ _)
  · rename_i a b
    exact absurd h1 (zdec_head _ _)
  · rename_i a b
    have := decDigits_inj h1
    omega
theorem zB_late (v : Int) : (zB v).data.toList ≠ lateB.data.toList := fun h => by
  rw [zB_list] at h
  unfold Lib.itoa at h
  split at h
  · have := congrArg List.head? h
    simp [lateB] at this
  · have h2 := numB_late v.toNat
    rw [numB_list] at h2
    exact h2 h
def glM (c : Int → Nat) (t n : Nat) : List (ByteArray × ByteArray) := (List.range (2 * n + 1)).filterMap fun (j : Nat) => if c ((j : Int) - n) = 0 then none else some (zB ((j : Int) - n), shB (c ((j : Int) - n)) t)
def glP (c : Int → Nat) (t n r : Nat) : List (ByteArray × ByteArray) := glM c t n ++ if r = 0 then [] else [(lateB, shB r t)]
theorem glM_mem {c : Int → Nat} {t n : Nat} {p : ByteArray × ByteArray} : p ∈ glM c t n ↔ ∃ v : Int, -(n : Int) ≤ v ∧ v ≤ n ∧ c v ≠ 0 ∧ p = (zB v, shB (c v) t) := by
  unfold glM
  rw [List.mem_filterMap]
  constructor
  · rintro ⟨j, hj, h⟩
    rw [List.mem_range] at hj
    split at h
    · cases h
    · rename_i h0
      exact ⟨(j : Int) - n, by omega, by omega, h0, (Option.some.inj h).symm⟩
  · rintro ⟨v, h1, h2, h3, rfl⟩
    refine ⟨(v + n).toNat, List.mem_range.2 (by omega), ?_⟩
    rw [show ((v + (n : Int)).toNat : Int) - (n : Int) = v by omega, if_neg h3]
theorem glM_nd (c : Int → Nat) (t n : Nat) : ((glM c t n).map keyL).Nodup := by
  unfold glM
  rw [List.map_filterMap]
  refine List.Pairwise.filterMap (R := fun a b => a ≠ b) _ (fun a b hab x hx y hy => ?_) List.nodup_range
  simp only [Option.map_eq_some_iff] at hx hy
  obtain ⟨p, hp, rfl⟩ := hx
  obtain ⟨q, hq, rfl⟩ := hy
  split at hp
  · cases hp
  · split at hq
    · cases hq
    · obtain rfl := (Option.some.inj hp).symm
      obtain rfl := (Option.some.inj hq).symm
      intro e
      have := zB_inj (ba_ext e)
      exact hab (by omega)
theorem glP_nd (c : Int → Nat) (t n r : Nat) : ((glP c t n r).map keyL).Nodup := by
  unfold glP
  split
  · rw [List.append_nil]; exact glM_nd c t n
  · rw [List.map_append, List.nodup_append]
    refine ⟨glM_nd c t n, by simp, ?_⟩
    intro a ha b hb e
    rw [List.mem_map] at ha
    obtain ⟨p, hp, rfl⟩ := ha
    obtain ⟨v, -, -, -, rfl⟩ := glM_mem.1 hp
    simp at hb
    subst hb
    exact zB_late v e
theorem glP_mem {c : Int → Nat} {t n r : Nat} {p : ByteArray × ByteArray} : p ∈ glP c t n r ↔ (∃ v : Int, -(n : Int) ≤ v ∧ v ≤ n ∧ c v ≠ 0 ∧ p = (zB v, shB (c v) t)) ∨ (r ≠ 0 ∧ p = (lateB, shB r t)) := by
  unfold glP
  rw [List.mem_append, glM_mem]
  refine or_congr Iff.rfl ?_
  split
  · rename_i h; simp [h]
  · rename_i h; simp [h]
theorem sortM_same {L M : List (ByteArray × ByteArray)} (h1 : (L.map keyL).Nodup) (h2 : (M.map keyL).Nodup) (h : ∀ p, p ∈ L ↔ p ∈ M) : sortM L = sortM M := by
  have n1 : L.Nodup := List.Pairwise.of_map keyL (fun a b h e => h (congrArg keyL e)) h1
  have n2 : M.Nodup := List.Pairwise.of_map keyL (fun a b h e => h (congrArg keyL e)) h2
  have hp : L.Perm M := (List.perm_ext_iff_of_nodup n1 n2).2 h
  have hs : (sortM L).Perm (sortM M) := ((List.mergeSort_perm L _).trans hp).trans (List.mergeSort_perm M _).symm
  refine List.Perm.eq_of_pairwise (le := fun p q => leB (keyL p) (keyL q) = true) ?_ (sortM_sorted _) (sortM_sorted _) hs
  intro a b ha hb hab hba
  simp only [leB, decide_eq_true_eq] at hab hba
  have e : keyL a = keyL b := List.le_antisymm hab hba
  have hb2 : b ∈ L := (h b).2 (sortM_mem.1 hb)
  have ha2 : a ∈ L := sortM_mem.1 ha
  obtain ⟨i, hi, rfl⟩ := List.getElem_of_mem ha2
  obtain ⟨j, hj, rfl⟩ := List.getElem_of_mem hb2
  have hij : i = j := by
    rcases Nat.lt_trichotomy i j with h3 | h3 | h3
    · have := List.pairwise_iff_getElem.1 h1 i j (by simpa using hi) (by simpa using hj) h3
      simp only [List.getElem_map, ne_eq] at this
      exact absurd e this
    · exact h3
    · have := List.pairwise_iff_getElem.1 h1 j i (by simpa using hj) (by simpa using hi) h3
      simp only [List.getElem_map, ne_eq] at this
      exact absurd e.symm this
  subst hij
  rfl
end Go.Proofs.YtccalhlhdiapiaaGreatDoor
namespace Go.Proofs.YtccalhlhdiapiaaGreatDoor
open Go.RowKit
set_option linter.unusedVariables false
set_option linter.unusedSimpArgs false
theorem sumN_pick (x : Nat) (k : Nat) : ∀ n, sumN (fun j => if j = k then x else 0) n = if k < n then x else 0
  | 0 => by simp [sumN]
  | n + 1 => by
    rw [sumN, sumN_pick x k n]
    by_cases h1 : k < n
    · rw [if_pos h1, if_neg (by omega), if_pos (by omega)]; rfl
    · rw [if_neg h1, Nat.zero_add]
      by_cases h2 : n = k
      · rw [if_pos h2, if_pos (by omega)]
      · rw [if_neg h2, if_neg (by omega)]
theorem seen_sum (c : Int → Nat) (n : Nat) : ∀ vs : List Int, vs.Nodup → (∀ v ∈ vs, -(n : Int) ≤ v ∧ v ≤ n) → (vs.map c).sum = sumN (fun j => if ((j : Int) - n) ∈ vs then c ((j : Int) - n) else 0) (2 * n + 1)
  | [], _, _ => by
    rw [sumN_congr (d := fun _ => 0) (fun j _ => by simp), sumN_zero]; rfl
  | v :: vs, hn, hb => by
    have ih := seen_sum c n vs (List.nodup_cons.1 hn).2 fun w hw => hb w (List.mem_cons_of_mem _ hw)
    have hv := hb v (List.mem_cons_self ..)
    have hnv := (List.nodup_cons.1 hn).1
    rw [List.map_cons, List.sum_cons, ih]
    have e : sumN (fun j => if ((j : Int) - n) ∈ v :: vs then c ((j : Int) - n) else 0) (2 * n + 1) = sumN (fun j => (if j = (v + n).toNat then c v else 0) + (if ((j : Int) - n) ∈ vs then c ((j : Int) - n) else 0)) (2 * n + 1) := by
      refine sumN_congr fun j hj => ?_
      by_cases h1 : j = (v + n).toNat
      · have h2 : (j : Int) - n = v := by omega
        rw [h2, if_pos (List.mem_cons_self ..), if_pos h1, if_neg hnv]; rfl
      · have h2 : (j : Int) - n ≠ v := by omega
        rw [if_neg h1, Nat.zero_add]
        by_cases h3 : ((j : Int) - n) ∈ vs
        · rw [if_pos h3, if_pos (List.mem_cons_of_mem _ h3)]
        · rw [if_neg h3, if_neg (fun h => by rcases List.mem_cons.1 h with h | h; exact h2 h; exact h3 h)]
    rw [e, sumN_add, sumN_pick, if_pos (by omega)]
structure Seen (c : Int → Nat) (n : Nat) (left : Int → Bool) (vs : List Int) : Prop where
  nd : vs.Nodup
  mem : ∀ v, v ∈ vs ↔ c v ≠ 0 ∧ left v = false
theorem Seen.start {c : Int → Nat} {n : Nat} {left : Int → Bool} (h : ∀ v, c v ≠ 0 → left v = true) : Seen c n left [] := ⟨List.nodup_nil, fun v => ⟨fun hv => by simp at hv, fun ⟨h1, h2⟩ => by rw [h v h1] at h2; cases h2⟩⟩
theorem Seen.step {c : Int → Nat} {n : Nat} {left left' : Int → Bool} {vs : List Int} {x : Int} (h : Seen c n left vs) (hx : left x = true) (hc : c x ≠ 0) (hl : ∀ v, left' v = (left v && !decide (v = x))) : Seen c n left' (vs ++ [x]) := by
  refine ⟨?_, fun v => ?_⟩
  · rw [List.nodup_append]
    refine ⟨h.nd, by simp, fun a ha b hb e => ?_⟩
    simp at hb
    subst hb
    subst e
    have := ((h.mem a).1 ha).2
    rw [hx] at this; cases this
  · rw [List.mem_append, h.mem, hl]
    constructor
    · rintro (⟨h1, h2⟩ | h1)
      · exact ⟨h1, by rw [h2]; rfl⟩
      · simp at h1
        subst h1
        exact ⟨hc, by simp⟩
    · rintro ⟨h1, h2⟩
      rw [Bool.and_eq_false_iff] at h2
      rcases h2 with h2 | h2
      · exact .inl ⟨h1, h2⟩
      · right; simp at h2; simp [h2]
theorem Seen.sum_le {N D : Nat} (hND : N < D) {two : Bool} {n : Nat} {left : Int → Bool} {vs : List Int} (h : Seen (gV N D two n) n left vs) : (vs.map (gV N D two n)).sum ≤ 2 ^ n := by
  rw [seen_sum _ n vs h.nd (fun v hv => by
    have h1 := ((h.mem v).1 hv).1
    rcases Int.lt_or_le v (-(n : Int)) with h2 | h2
    · exact absurd (gV_out hND (.inl h2)) h1
    · rcases Int.lt_or_le (n : Int) v with h3 | h3
      · exact absurd (gV_out hND (.inr h3)) h1
      · exact ⟨h2, h3⟩)]
  have h1 := gV_sum hND two n
  have h2 : sumN (fun j => if ((j : Int) - n) ∈ vs then gV N D two n ((j : Int) - n) else 0) (2 * n + 1) ≤ sumN (fun j => gV N D two n ((j : Int) - n)) (2 * n + 1) := sumN_le fun j _ => by split <;> omega
  omega
theorem Seen.sum_all {N D : Nat} (hND : N < D) {two : Bool} {n : Nat} {left : Int → Bool} {vs : List Int} (h : Seen (gV N D two n) n left vs) (hl : ∀ v, left v = false) : 2 ^ n - (vs.map (gV N D two n)).sum = gL N D two n := by
  rw [seen_sum _ n vs h.nd (fun v hv => by
    have h1 := ((h.mem v).1 hv).1
    rcases Int.lt_or_le v (-(n : Int)) with h2 | h2
    · exact absurd (gV_out hND (.inl h2)) h1
    · rcases Int.lt_or_le (n : Int) v with h3 | h3
      · exact absurd (gV_out hND (.inr h3)) h1
      · exact ⟨h2, h3⟩)]
  have h1 := gV_sum hND two n
  have h2 : sumN (fun j => if ((j : Int) - n) ∈ vs then gV N D two n ((j : Int) - n) else 0) (2 * n + 1) = sumN (fun j => gV N D two n ((j : Int) - n)) (2 * n + 1) := sumN_congr fun j _ => by
    split
    · rfl
    · rename_i hm
      rw [h.mem] at hm
      by_cases h0 : gV N D two n ((j : Int) - n) = 0
      · exact h0.symm
      · exact absurd ⟨h0, hl _⟩ hm
  omega
theorem Seen.pairs {N D : Nat} (hND : N < D) {two : Bool} {n t r : Nat} {left : Int → Bool} {vs : List Int} (h : Seen (gV N D two n) n left vs) (hl : ∀ v, left v = false) :
    (((vs.map fun v => (zB v, shB (gV N D two n v) t)) ++ if r = 0 then [] else [(lateB, shB r t)]).map keyL).Nodup ∧ sortM ((vs.map fun v => (zB v, shB (gV N D two n v) t)) ++ if r = 0 then [] else [(lateB, shB r t)]) = sortM (glP (gV N D two n) t n r) := by
  have hk : ((vs.map fun v => (zB v, shB (gV N D two n v) t)).map keyL).Nodup := by
    rw [List.map_map]
    refine List.Pairwise.map (R := fun a b => a ≠ b) _ (fun a b hab e => hab (zB_inj (ba_ext e))) h.nd
  have nd : (((vs.map fun v => (zB v, shB (gV N D two n v) t)) ++ if r = 0 then [] else [(lateB, shB r t)]).map keyL).Nodup := by
    split
    · rw [List.append_nil]; exact hk
    · rw [List.map_append, List.nodup_append]
      refine ⟨hk, by simp, fun a ha b hb e => ?_⟩
      simp only [List.mem_map] at ha
      obtain ⟨p, ⟨v, -, rfl⟩, rfl⟩ := ha
      simp at hb
      subst hb
      exact zB_late v e
  refine ⟨nd, sortM_same nd (glP_nd _ _ _ _) fun p => ?_⟩
  rw [glP_mem, List.mem_append, List.mem_map]
  refine or_congr ?_ ?_
  · constructor
    · rintro ⟨v, hv, rfl⟩
      have h1 := ((h.mem v).1 hv).1
      refine ⟨v, ?_, ?_, h1, rfl⟩
      · rcases Int.lt_or_le v (-(n : Int)) with h2 | h2
        · exact absurd (gV_out hND (.inl h2)) h1
        · exact h2
      · rcases Int.lt_or_le (n : Int) v with h3 | h3
        · exact absurd (gV_out hND (.inr h3)) h1
        · exact h3
    · rintro ⟨v, -, -, h1, rfl⟩
      exact ⟨v, (h.mem v).2 ⟨h1, hl v⟩, rfl⟩
  · split
    · rename_i h; simp [h]
    · rename_i h; simp [h]
end Go.Proofs.YtccalhlhdiapiaaGreatDoor
namespace Go.Proofs.YtccalhlhdiapiaaGreatDoor
open Go.RowKit Go.Shelf
open Go.Lib (decDigits nDigits)
set_option linter.unusedVariables false
set_option linter.unusedSimpArgs false
def d3 (t : Bool × Int × Int) : Value := .agg #[.bool t.1, .int .i64 t.2.1, .int .i64 t.2.2]
def oneT (N D : Nat) (l : List UInt8) : Bool × Int × Int := match s1 N D l 0 0 with
  | none => (false, 0, (l.length : Nat))
  | some (x, p) => (true, (x : Nat), (p : Nat))
def twoT (N D : Nat) (l : List UInt8) : Bool × Int × Int := match s1 N D l 0 0 with
  | none => (false, 0, (l.length : Nat))
  | some (x, p) => match s1 N D l p 0 with
    | none => (false, 0, (l.length : Nat))
    | some (y, q) => (true, (x : Int) - (y : Int), (q : Nat))
def oT (a b : ByteArray) : Bool × Int × Int := if gE a b = 0 then oneT (bN (cW a)) (bN (qD a)) b.data.toList else (false, 0, 0)
def wT (a b : ByteArray) : Bool × Int × Int := if gE a b = 0 then twoT (bN (cW a)) (bN (qD a)) b.data.toList else (false, 0, 0)
theorem chk_size {b : ByteArray} (h : chkE b = 0) : b.size ≤ 256 := by
  have h5 := (bit_drop h 0).2.1
  have h6 := list_size (b.extract 0 b.size)
  have h7 := (bit_drop h 0).2.2
  rw [h5, List.drop_zero, list_size] at h6
  omega
theorem g_draw1 (w : World) (a b : ByteArray) (ha : a.size ≤ 100000) (hb : b.size ≤ 100000) (hL : Lay w) :
    Calls Tryz.prog 53 #[.string a, .string b, .int .i64 1] w fun e w' => e = .returned (.tuple #[d3 (oT a b), .int .i64 (gE a b)]) ∧ Below w.heap.size w w' := by
  by_cases he : gE a b = 0
  · have hs := chk_size (gE_ok he).2
    have hND := (gPE_ok (gE_ok he).1).2
    have hl : b.data.toList.length = b.size := list_size b
    have h1 := sr_one_eq hND (l := b.data.toList) b.data.toList.length 0 [] 0 (Nat.zero_le _) (by omega)
    rw [oT, if_pos he, oneT, he]
    cases hS : s1 (bN (cW a)) (bN (qD a)) b.data.toList 0 0 with
    | none =>
      rw [hS] at h1
      refine (g_draw_none w a b 1 (by omega) (by omega) ha hb he hL h1).mono fun e w' h => ?_
      rw [h.1]
      exact ⟨by rw [hl]; rfl, h.2⟩
    | some y =>
      obtain ⟨x, p⟩ := y
      rw [hS] at h1
      have h2 := s1_le hND b.data.toList.length 0 0 x p (Nat.zero_le _) (by omega) hS
      exact g_draw_one w a b x p (by omega) (by omega) ha hb he hL h1
  · rw [oT, if_neg he]
    exact g_draw_bad w a b 1 ha hb he hL
theorem g_draw2 (w : World) (a b : ByteArray) (ha : a.size ≤ 100000) (hb : b.size ≤ 100000) (hL : Lay w) :
    Calls Tryz.prog 53 #[.string a, .string b, .int .i64 2] w fun e w' => e = .returned (.tuple #[d3 (wT a b), .int .i64 (gE a b)]) ∧ Below w.heap.size w w' := by
  by_cases he : gE a b = 0
  · have hs := chk_size (gE_ok he).2
    have hND := (gPE_ok (gE_ok he).1).2
    have hl : b.data.toList.length = b.size := list_size b
    have h1 := sr_two hND (l := b.data.toList) b.data.toList.length 0 [] 0 (Nat.zero_le _) (by omega)
    rw [wT, if_pos he, twoT, he]
    cases hS : s1 (bN (cW a)) (bN (qD a)) b.data.toList 0 0 with
    | none =>
      rw [hS] at h1
      refine (g_draw_none w a b 2 (by omega) (by omega) ha hb he hL h1).mono fun e w' h => ?_
      rw [h.1]
      exact ⟨by rw [hl]; rfl, h.2⟩
    | some y =>
      obtain ⟨x, p⟩ := y
      rw [hS] at h1
      have h2 := s1_le hND b.data.toList.length 0 0 x p (Nat.zero_le _) (by omega) hS
      have h3 := sr_one_eq hND (l := b.data.toList) b.data.toList.length p ([] ++ [x]) 0 h2.2.1 (by omega)
      dsimp only at h1 ⊢
      rw [h3] at h1
      cases hT : s1 (bN (cW a)) (bN (qD a)) b.data.toList p 0 with
      | none =>
        rw [hT] at h1
        refine (g_draw_none w a b 2 (by omega) (by omega) ha hb he hL h1).mono fun e w' h => ?_
        rw [h.1]
        exact ⟨by rw [hl]; rfl, h.2⟩
      | some z =>
        obtain ⟨y, q⟩ := z
        rw [hT] at h1
        have h4 := s1_le hND b.data.toList.length p 0 y q h2.2.1 (by omega) hT
        exact g_draw_two w a b x y q (by omega) (by omega) (by omega) ha hb he hL h1
  · rw [wT, if_neg he]
    exact g_draw_bad w a b 2 ha hb he hL
set_option maxRecDepth 100000 in
set_option maxHeartbeats 1000000 in
theorem g_One (w : World) (a b : ByteArray) (ha : a.size ≤ 100000) (hb : b.size ≤ 100000) (hL : Lay w) :
    Calls Tryz.prog 26 #[.string a, .string b] w fun e w' => e = .returned (.tuple #[d3 (oT a b), .int .i64 (gE a b)]) ∧ Below w.heap.size w w' := by
  have HC := fun V hV => hid (g_draw1 V a b ha hb hV)
  obtain ⟨t, ht⟩ : ∃ t, oT a b = t := ⟨_, rfl⟩
  obtain ⟨x, hx⟩ : ∃ x, gE a b = x := ⟨_, rfl⟩
  rw [ht, hx] at HC
  rw [ht, hx]
  obtain ⟨d, v, u⟩ := t
  simp only [d3] at HC
  have HL := hid hL
  have b0 := hid ((Below.refl w.heap.size w).alloc (Nat.le_refl _) (.cells #[.bool false, .int .i64 0, .int .i64 0] 46))
  have x0 := hid (Blk.new w #[.bool false, .int .i64 0, .int .i64 0] 46)
  clear ha hb hL hx ht
  go_enter Tryz.func26, Tryz.ntmps26
  go_wp2_with fail
  refine (HC _ (HL.out.call b0.out)).out.mono ?_; rintro e w2 ⟨rfl, hb2⟩
  have b2 := hid (bnext b0.out hb2); have x2 := hid (x0.out.call hb2)
  have r0 : w2.cell? ⟨w.heap.size, 0, none⟩ = some (.bool false) := x2.out.cell 0
  have r1 : w2.cell? ⟨w.heap.size, 1, none⟩ = some (.int .i64 0) := x2.out.cell 1
  have r2 : w2.cell? ⟨w.heap.size, 2, none⟩ = some (.int .i64 0) := x2.out.cell 2
  have f0 := x2.out.free 0
  have f1 := x2.out.free 1
  have f2 := x2.out.free 2
  clear hb2
  go_wp2_with fail
  have s3 := ((x2.out.set 0 (.bool d)).set 1 (.int .i64 v)).set 2 (.int .i64 u)
  have k0 := s3.cell 0
  have k1 := s3.cell 1
  have k2 := s3.cell 2
  simp at k0 k1 k2
  refine bodyPost_ret (v := .tuple #[.agg #[.bool d, .int .i64 v, .int .i64 u], .int .i64 x]) (by simp [results, Tryz.results26, go_sem, k0, k1, k2]) rfl ⟨rfl, ?_⟩
  exact ((b2.out.setCell (Nat.le_refl _) _).setCell (Nat.le_refl _) _).setCell (Nat.le_refl _) _
set_option maxRecDepth 100000 in
set_option maxHeartbeats 1000000 in
theorem g_Two (w : World) (a b : ByteArray) (ha : a.size ≤ 100000) (hb : b.size ≤ 100000) (hL : Lay w) :
    Calls Tryz.prog 27 #[.string a, .string b] w fun e w' => e = .returned (.tuple #[d3 (wT a b), .int .i64 (gE a b)]) ∧ Below w.heap.size w w' := by
  have HC := fun V hV => hid (g_draw2 V a b ha hb hV)
  obtain ⟨t, ht⟩ : ∃ t, wT a b = t := ⟨_, rfl⟩
  obtain ⟨x, hx⟩ : ∃ x, gE a b = x := ⟨_, rfl⟩
  rw [ht, hx] at HC
  rw [ht, hx]
  obtain ⟨d, v, u⟩ := t
  simp only [d3] at HC
  have HL := hid hL
  have b0 := hid ((Below.refl w.heap.size w).alloc (Nat.le_refl _) (.cells #[.bool false, .int .i64 0, .int .i64 0] 46))
  have x0 := hid (Blk.new w #[.bool false, .int .i64 0, .int .i64 0] 46)
  clear ha hb hL hx ht
  go_enter Tryz.func27, Tryz.ntmps27
  go_wp2_with fail
  refine (HC _ (HL.out.call b0.out)).out.mono ?_; rintro e w2 ⟨rfl, hb2⟩
  have b2 := hid (bnext b0.out hb2); have x2 := hid (x0.out.call hb2)
  have r0 : w2.cell? ⟨w.heap.size, 0, none⟩ = some (.bool false) := x2.out.cell 0
  have r1 : w2.cell? ⟨w.heap.size, 1, none⟩ = some (.int .i64 0) := x2.out.cell 1
  have r2 : w2.cell? ⟨w.heap.size, 2, none⟩ = some (.int .i64 0) := x2.out.cell 2
  have f0 := x2.out.free 0
  have f1 := x2.out.free 1
  have f2 := x2.out.free 2
  clear hb2
  go_wp2_with fail
  have s3 := ((x2.out.set 0 (.bool d)).set 1 (.int .i64 v)).set 2 (.int .i64 u)
  have k0 := s3.cell 0
  have k1 := s3.cell 1
  have k2 := s3.cell 2
  simp at k0 k1 k2
  refine bodyPost_ret (v := .tuple #[.agg #[.bool d, .int .i64 v, .int .i64 u], .int .i64 x]) (by simp [results, Tryz.results27, go_sem, k0, k1, k2]) rfl ⟨rfl, ?_⟩
  exact ((b2.out.setCell (Nat.le_refl _) _).setCell (Nat.le_refl _) _).setCell (Nat.le_refl _) _
end Go.Proofs.YtccalhlhdiapiaaGreatDoor
namespace Go.Proofs.YtccalhlhdiapiaaGreatDoor
open Go.RowKit Go.Shelf
open Go.Lib (decDigits nDigits)
set_option linter.unusedVariables false
set_option linter.unusedSimpArgs false
set_option maxRecDepth 100000 in
theorem g_power (w : World) (n : Nat) (hn : n ≤ 1000) (hL : Lay w) :
    Calls Tryz.prog 63 #[.int .i64 n] w fun e w' => e = .returned (.string (numB (2 ^ n))) ∧ Below w.heap.size w w' := by
  have HP := hid (n_Pow_ok w ⟨#[50]⟩ n errN_two (by omega) (by rw [bN_two]; exact two_digits hn) hL)
  rw [bN_two] at HP
  clear hn hL
  go_enter Tryz.func63, Tryz.ntmps63
  go_wp2_with fail
  refine HP.out.mono ?_; rintro e w1 ⟨rfl, hb1⟩
  have b1 := hid hb1; clear hb1
  go_wp2_with fail
  go_ret
  exact ⟨rfl, b1.out⟩
end Go.Proofs.YtccalhlhdiapiaaGreatDoor
namespace Go.Proofs.YtccalhlhdiapiaaGreatDoor
open Go.RowKit
open Go.Lib (decDigits nDigits)
set_option linter.unusedVariables false
set_option linter.unusedSimpArgs false
def OwnR (w : World) (H n : Nat) (v : Value) (l : List Nat) : Prop := ∃ g, v = .slice (some ⟨g, 0, none⟩) (n + 1) (n + 1) ∧ H ≤ g ∧ NRowT w g l
def lateL (two : Bool) (L : List Nat) (n : Nat) : List Nat := if two = true then cOut L n (n + 1) else L
set_option maxRecDepth 100000 in
set_option maxHeartbeats 8000000 in
theorem g_late (w : World) (a : ByteArray) (n N D : Nat) (two : Bool) (ha : a.size ≤ 100000) (he : gPE a = 0) (hn : n ≤ 256) (hN : bN (cW a) = N) (hD : bN (qD a) = D) (hND : N < D) (hL : Lay w)
    (hR : ∀ i, i ≤ n → (lateL two (tOut (oneJ N D) (zeroJ N D) n (n + 1)).2 n).getD i 0 * 2 ^ (n - i) ≤ rIn (lateL two (tOut (oneJ N D) (zeroJ N D) n (n + 1)).2 n) n i) :
    Calls Tryz.prog 31 #[.string a, .int .i64 n, .bool two] w fun e w' => e = .returned (.tuple #[.string (outB (qmk false (rIn (lateL two (tOut (oneJ N D) (zeroJ N D) n (n + 1)).2 n) n (n + 1)) (2 ^ n))), .int .i64 0]) ∧ Below w.heap.size w w' := by
  have HA := hid (g_ratio w a ha hL)
  rw [if_pos he, if_pos he, he] at HA
  have HT := fun V hV => hid (g_totals V a n N D ha he (by omega) hN hD hND hV)
  have HRep := fun V g h => hid (s_Repeat V g (n + 1) ⟨#[48]⟩ (by omega) (by omega) h)
  have hLb := tab_bound (os := oneJ N D) (zs := zeroJ N D) rfl hn
  obtain ⟨L, hL0⟩ : ∃ L, (tOut (oneJ N D) (zeroJ N D) n (n + 1)).2 = L := ⟨_, rfl⟩
  have HLQ := hid hL0
  rw [hL0] at hLb hR ⊢
  have HLb := hid hLb
  have hM : (lateL two L n).length = n + 1 ∧ ∀ k, (lateL two L n).getD k 0 ≤ 2 ^ e7 := by
    unfold lateL
    split
    · have h := CB.outer hLb.2 (n + 1) (Nat.le_refl (n + 1))
      exact ⟨h.len, fun k => conv_bound hn (Nat.le_refl _) (h.up k)⟩
    · exact ⟨hLb.1, fun k => Nat.le_trans (hLb.2 k) (Nat.pow_le_pow_right (by omega) (by unfold e3 e7; omega))⟩
  obtain ⟨M, hM0⟩ : ∃ M, lateL two L n = M := ⟨_, rfl⟩
  have HMQ := hid hM0
  rw [hM0] at hM hR ⊢
  have HMb := hid hM; have HR := hid hR
  have hmk := mk_num (a := rIn M n (n + 1)) (b := 2 ^ n) (two_pow_digits (rIn_le M n _) (by omega)) (two_pow_digits (Nat.le_refl _) (by omega)) (by have := Nat.pow_pos (n := n) (show 0 < 2 by omega); omega)
  have hov : ¬ ovQ (qmk false (rIn M n (n + 1)) (2 ^ n)) := by
    have hd : 0 < 2 ^ n := Nat.pow_pos (by omega)
    unfold ovQ
    rw [qmk_num hd, qmk_den hd, sgn_natAbs]
    have h1 := nDigits_mono (Nat.div_le_self (rIn M n (n + 1)) (Nat.gcd (rIn M n (n + 1)) (2 ^ n)))
    have h2 := nDigits_mono (Nat.div_le_self (2 ^ n) (Nat.gcd (rIn M n (n + 1)) (2 ^ n)))
    have h3 := two_pow_digits (rIn_le M n (n + 1)) (by omega)
    have h4 := two_pow_digits (Nat.le_refl (2 ^ n)) (by omega)
    omega
  have HQM := fun V hV => hid (q_Make V (numB (rIn M n (n + 1))) (numB (2 ^ n)) (numB_sz (two_pow_digits (rIn_le M n _) (by omega))) (numB_sz (two_pow_digits (Nat.le_refl _) (by omega))) hV)
  rw [hmk.1, hmk.2, outE_ok hov] at HQM
  obtain ⟨out, hout⟩ : ∃ o, outB (qmk false (rIn M n (n + 1)) (2 ^ n)) = o := ⟨_, rfl⟩
  rw [hout] at HQM ⊢
  have HLy := hid hL; have HLL := hid hL.lt; have HN := hid hn
  have wn : IntKind.i64.wrap ((n : Int) + 1) = ((n + 1 : Nat) : Int) := by rw [IntWalk.i64_in _ ⟨by omega, by omega⟩]; omega
  have q0 : decide ((n : Int) < 0) = false := by simp
  have q1 : decide ((256 : Int) < (n : Int)) = false := by simp; omega
  have n256 : (n : Int) ≤ 256 := by omega
  clear ha he hn hN hD hND hL hR hLb hL0 hM hM0 hmk hov hout
  go_enter Tryz.func31, Tryz.ntmps31
  go_wp2_with fail
  refine HA.out.mono ?_; rintro e w1 ⟨rfl, hb1⟩
  have B1 := hid hb1
  clear hb1 HA
  go_wp2_with fail
  refine (HT _ (HLy.out.call B1.out)).out.mono ?_; rintro e w2 ⟨⟨g11, rfl, h11, hr11⟩, hb2⟩
  rw [HLQ.out] at hr11
  have R11 := hid hr11; have B2 := hid (bnext B1.out hb2); have K11 := hid (show w.heap.size ≤ g11 from Nat.le_trans B1.out.size h11)
  clear h11 hr11 hb2 HT
  go_upto_if 38 with fail
  go_cut [11] (fun s11 wx => OwnR wx w.heap.size n s11 M ∧ Below w.heap.size w wx)
  case first =>
    cases two
    · go_wp2_with fail
      go_meet
      exact ⟨⟨g11, rfl, K11.out, by rw [← HMQ.out]; exact R11.out⟩, B2.out⟩
    · go_wp2_with fail
      refine (HRep _ _ ((Blk.new w2 _ _).cell 0)).out.mono ?_; rintro e w3 ⟨rfl, hg8, hb3⟩
      obtain ⟨g12, h8⟩ : ∃ g, (w2.alloc (.cells #[.string ⟨#[48]⟩] 22)).heap.size = g := ⟨_, rfl⟩
      rw [h8] at hg8 ⊢
      have R12 := hid (NRowT.zeros hg8)
      have a2 := (Below.refl w2.heap.size w2).alloc (Nat.le_refl _) (.cells #[.string ⟨#[48]⟩] 22)
      have b3 := hid (bnext a2 hb3)
      have B3 := hid (bnext B2.out b3.out); have R113 := hid (R11.out.call b3.out)
      have K12 := hid (show w.heap.size ≤ g12 by rw [← h8]; have := B2.out.size; simp; omega)
      have NE := hid (show g11 ≠ g12 by have := R11.out.lt; rw [← h8]; simp; omega)
      clear hg8 hb3 a2 h8 HRep b3
      have hc0 := hid (show NRowT w3 g12 (cOut L n 0) from R12.out)
      go_wp2_with fail
      go_loopw [45] (fun ii wr => ∃ i : Nat, ii = .int .i64 (i : Nat) ∧ i ≤ n + 1 ∧ Hid (NRowT wr g12 (cOut L n i)) ∧ Hid (NRowT wr g11 L) ∧ Hid (Below w.heap.size w wr)) (fun ii wr => n + 1 - (intOf ii).toNat)
      case atStart => exact ⟨0, rfl, Nat.zero_le _, hc0, R113, B3⟩
      case round =>
        obtain ⟨i, rfl, hi, hg12, hg11, hB⟩ := hrel
        by_cases hlt : i < n + 1
        · have q5 : decide ((i : Int) < ((n + 1 : Nat) : Int)) = true := by simp; omega
          have f0 : (0 : Int) ≤ (i : Int) := by omega
          have f1 : (i : Int) < ((n + 1 : Nat) : Int) := by omega
          have f2 : (i : Int) ≤ 256 := by have := HN.out; omega
          have IL := hid hlt
          have CBI := hid (CB.outer (n := n) HLb.out.2 i hi)
          clear hi hlt
          go_wp2_with fail
          have d30 : decide ((i : Int) < (n : Int) + 1) = true := by have := IL.out; simp; omega
          try rw [d30]
          clear d30
          obtain ⟨wo, rfl⟩ : ∃ wo : World, wo = wr := ⟨_, rfl⟩
          obtain ⟨m0, hm0⟩ : ∃ s, cOut L n i = s := ⟨_, rfl⟩
          have hnext := hid (show cOut L n (i + 1) = cIn L i (n + 1 - i) m0 from by rw [cOut, hm0])
          rw [hm0] at hg12 CBI
          clear hm0
          go_loopw [14] (fun jj wq => ∃ j : Nat, jj = .int .i64 (j : Nat) ∧ i + j ≤ n + 1 ∧ Hid (NRowT wq g12 (cIn L i j m0)) ∧ Hid (NRowT wq g11 L) ∧ Hid (Below w.heap.size w wq)) (fun jj wq => n + 1 - (intOf jj).toNat)
          case atStart => exact ⟨0, rfl, by have := IL.out; omega, hg12, hg11, hB⟩
          case round =>
            clear hg12 hg11 hB
            obtain ⟨j, rfl, hj, hg12, hg11, hB⟩ := hrel
            have CBJ := hid (CB.inner CBI.out HLb.out.2 j hj)
            by_cases hlt : i + j ≤ n
            · have q6 : decide ((i : Int) + (j : Int) ≤ (n : Int)) = true := by simp; omega
              have f5 : (0 : Int) ≤ (j : Int) := by omega
              have f6 : (j : Int) < ((n + 1 : Nat) : Int) := by omega
              have f7 : (j : Int) ≤ 256 := by have := HN.out; omega
              have f8 : (i : Int) + (j : Int) < ((n + 1 : Nat) : Int) := by omega
              have f9 : (i : Int) + (j : Int) < (n : Int) + 1 := by omega
              have f10 : (0 : Int) ≤ (i : Int) + (j : Int) := by omega
              have f11 : (j : Int) < (n : Int) + 1 := by omega
              have HLT := hid hlt
              obtain ⟨y, hy⟩ : ∃ y, (cIn L i j m0).getD (i + j) 0 = y := ⟨_, rfl⟩
              obtain ⟨x1, hx1⟩ : ∃ y, L.getD i 0 = y := ⟨_, rfl⟩
              obtain ⟨x2, hx2⟩ : ∃ y, L.getD j 0 = y := ⟨_, rfl⟩
              have b1 : x1 ≤ 2 ^ e3 := hx1 ▸ HLb.out.2 i
              have b2 : x2 ≤ 2 ^ e3 := hx2 ▸ HLb.out.2 j
              have tb : i * (n + 1) + j + 1 ≤ (n + 1) * (n + 1) := by
                have h1 : (i + 1) * (n + 1) ≤ (n + 1) * (n + 1) := Nat.mul_le_mul_right _ (by omega)
                rw [Nat.succ_mul] at h1
                omega
              have by0 : y ≤ 2 ^ e7 := hy ▸ conv_bound HN.out (t := i * (n + 1) + j) (by omega) (CBJ.out.up (i + j))
              have bm : x1 * x2 ≤ 2 ^ e7 := by
                have h1 := Nat.mul_le_mul b1 b2
                rw [← Nat.pow_add] at h1
                exact Nat.le_trans h1 (Nat.pow_le_pow_right (by omega) (by unfold e3 e7; omega))
              have bs : y + x1 * x2 ≤ 2 ^ (e7 + 1) := by rw [Nat.pow_succ]; omega
              have e37 : e3 ≤ 3000 ∧ e7 + 1 ≤ 3000 := by unfold e3 e7; omega
              have P1 := fun V hV => hid (p_times V x1 x2 (two_pow_digits b1 e37.1) (two_pow_digits b2 e37.1) (two_pow_digits bm (by omega)) hV)
              have P2 := fun V hV => hid (p_plus V y (x1 * x2) (two_pow_digits by0 (by omega)) (two_pow_digits bm (by omega)) (two_pow_digits bs e37.2) hV)
              have t1 : wr.cell? ⟨g12, i + j, none⟩ = some (.string (numB y)) := by rw [← hy]; exact hg12.out.cell (by rw [CBJ.out.len]; have := HLT.out; omega)
              have t2 : wr.cell? ⟨g11, i, none⟩ = some (.string (numB x1)) := by rw [← hx1]; exact hg11.out.cell (by rw [HLb.out.1]; exact IL.out)
              have t3 : wr.cell? ⟨g11, j, none⟩ = some (.string (numB x2)) := by rw [← hx2]; exact hg11.out.cell (by rw [HLb.out.1]; have := HLT.out; omega)
              obtain ⟨u1, hu1⟩ : ∃ s, numB y = s := ⟨_, rfl⟩
              obtain ⟨u2, hu2⟩ : ∃ s, numB x1 = s := ⟨_, rfl⟩
              obtain ⟨u3, hu3⟩ : ∃ s, numB x2 = s := ⟨_, rfl⟩
              obtain ⟨u4, hu4⟩ : ∃ s, numB (x1 * x2) = s := ⟨_, rfl⟩
              obtain ⟨u5, hu5⟩ : ∃ s, numB (y + x1 * x2) = s := ⟨_, rfl⟩
              rw [hu2, hu3, hu4] at P1
              rw [hu1, hu4, hu5] at P2
              rw [hu1] at t1
              rw [hu2] at t2
              rw [hu3] at t3
              have hstep := hid (show cIn L i (j + 1) m0 = (cIn L i j m0).set (i + j) (y + x1 * x2) from by rw [cIn, cStep, hy, hx1, hx2])
              have HU5 := hid hu5
              clear hy hx1 hx2 b1 b2 tb by0 bm bs e37 hu1 hu2 hu3 hu4 hu5 hlt hj
              go_wp2_with fail
              have ew : IntKind.i64.wrap ((i : Int) + (j : Int)) = (i : Int) + (j : Int) := by rw [IntWalk.i64_in _ ⟨by omega, by omega⟩]
              have et : ((i : Int) + (j : Int)).toNat = i + j := by omega
              refine held_lasts 20 2 [0, 1, 2, 3, 4, 5, 6, 7, 8, 9, 10, 11, 12, 13, 14, 15, 16, 17] 2 (fun W' => W'.cell? ⟨g12, i + j, none⟩ = some (.string u1) ∧ W'.cell? ⟨g11, i, none⟩ = some (.string u2) ∧ W'.cell? ⟨g11, j, none⟩ = some (.string u3)) (by kernel_rfl) rfl (by kernel_rfl) (by kernel_rfl) (by kernel_rfl) (by kernel_rfl) ⟨t1, t2, t3⟩ ?_
              iterate 18
                refine ⟨_, rfl, ?_⟩
                apply Exists.intro
                refine ⟨.inl ⟨by rfl, ?_⟩, ?_⟩
                · (intro W' hW'; obtain ⟨r1, r2, r3⟩ := hW'; go_simp; try (with_reducible rfl))
                (dsimp only [Act.put]; try simp only [List.setIfInBounds_toArray, List.set_cons_zero, List.set_cons_succ])
              refine held_one (i := 18) (by kernel_rfl) (by rfl) (by rfl) ?_
              go_wp2_with fail
              refine (P1 _ (HLy.out.below hB.out.drew HLL.out)).out.mono ?_; rintro e w5 ⟨rfl, hbc⟩
              have C5 := hid (show Below wr.heap.size wr w5 from (Below.refl _ _).drew.trans hbc)
              have E5 := hid (hg12.out.call C5.out); have F5 := hid (hg11.out.call C5.out); have EB5 := hid (hB.out.trans (C5.out.mono hB.out.size))
              have s1 := (C5.out.cell (cell_lt t1)).trans t1
              have s2 := (C5.out.cell (cell_lt t2)).trans t2
              have s3 := (C5.out.cell (cell_lt t3)).trans t3
              clear hbc t1 t2 t3
              go_wp2_with fail
              refine ⟨⟨s1, s2, s3⟩, ?_⟩
              refine held_one (i := 19) (by kernel_rfl) (by rfl) (by rfl) ?_
              go_wp2_with fail
              refine (P2 _ (HLy.out.below EB5.out HLL.out)).out.mono ?_; rintro e w6 ⟨rfl, hbc⟩
              have E6 := hid (E5.out.call hbc); have F6 := hid (F5.out.call hbc); have EB6 := hid (EB5.out.trans (hbc.mono EB5.out.size))
              have v1 := (hbc.cell (cell_lt s1)).trans s1
              have v2 := (hbc.cell (cell_lt s2)).trans s2
              have v3 := (hbc.cell (cell_lt s3)).trans s3
              clear hbc s1 s2 s3
              go_wp2_with fail
              refine ⟨⟨v1, v2, v3⟩, ?_⟩
              refine wpAnyH_done (by kernel_rfl) ?_ _
              simp only [Only, ThenL, List.drop_succ_cons, List.drop_zero]
              have fz := E6.out.free (i + j)
              clear v2 v3
              go_wp2_with fail
              try simp only [Only]
              go_roundw
              case rel =>
                refine ⟨j + 1, by go_num, by have := HLT.out; omega, ?_, F6.out.other (fun e => NE.out e.symm) _, EB6.out.setCell K12.out _⟩
                show NRowT _ _ _
                rw [hstep.out, ← HU5.out]
                exact E6.out.set (i + j) (y + x1 * x2)
              case measure => simp [intOf] <;> (have := HLT.out; omega)
            · have q6 : decide ((i : Int) + (j : Int) ≤ (n : Int)) = false := by simp; omega
              have e1 : j = n + 1 - i := by omega
              have f7 : (j : Int) ≤ 257 := by have := HN.out; omega
              have f5 : (0 : Int) ≤ (j : Int) := by omega
              subst e1
              clear hj hlt
              go_wp2_with fail
              go_roundw
              case rel => exact ⟨i + 1, by go_num, by have := IL.out; omega, by rw [hnext.out]; exact hg12, hg11, hB⟩
              case measure => simp [intOf] <;> (have := IL.out; omega)
        · have q5 : decide ((i : Int) < ((n + 1 : Nat) : Int)) = false := by simp; omega
          have e1 : i = n + 1 := by omega
          subst e1
          go_wp2_with fail
          go_meet
          exact ⟨⟨g12, rfl, K12.out, by rw [← HMQ.out]; exact hg12.out⟩, hB.out⟩
  case rest =>
    obtain ⟨⟨g, rfl, hg, hrow⟩, hB⟩ := hcut
    have RG := hid hrow; have KG := hid hg; have B3 := hid hB
    have HPow := fun V k (hk : k ≤ 256) hV => hid (g_power V k (by omega) hV)
    clear hrow hg hB
    go_wp2_with fail
    refine (HPow _ n HN.out (HLy.out.call B3.out)).out.mono ?_; rintro e w4 ⟨rfl, hb4⟩
    have RG4 := hid (RG.out.call hb4); have B4 := hid (bnext B3.out hb4)
    clear hb4
    go_wp2_with fail
    go_loopw [15, 82] (fun rr ii wr => ∃ i : Nat, ii = .int .i64 (i : Nat) ∧ i ≤ n + 1 ∧ rr = .string (numB (rIn M n i)) ∧ Hid (NRowT wr g M) ∧ Hid (Below w.heap.size w wr)) (fun rr ii wr => n + 1 - (intOf ii).toNat)
    case atStart => exact ⟨0, rfl, Nat.zero_le _, rfl, RG4, B4⟩
    case round =>
      obtain ⟨i, rfl, hi, rfl, hrow, hB⟩ := hrel
      by_cases hlt : i < n + 1
      · have q5 : decide ((i : Int) < ((n + 1 : Nat) : Int)) = true := by simp; omega
        have f0 : (0 : Int) ≤ (i : Int) := by omega
        have f1 : (i : Int) < ((n + 1 : Nat) : Int) := by omega
        have f2 : (i : Int) ≤ 256 := by have := HN.out; omega
        have f3 : (i : Int) ≤ (n : Int) := by omega
        have w1' : IntKind.i64.wrap ((n : Int) - (i : Int)) = ((n - i : Nat) : Int) := by rw [IntWalk.i64_in _ ⟨by omega, by omega⟩]; omega
        have IL := hid hlt
        obtain ⟨x, hx⟩ : ∃ x, M.getD i 0 = x := ⟨_, rfl⟩
        have t1 : wr.cell? ⟨g, i, none⟩ = some (.string (numB x)) := by rw [← hx]; exact hrow.out.cell (by rw [HMb.out.1]; exact IL.out)
        have bx : x ≤ 2 ^ e7 := hx ▸ HMb.out.2 i
        have hle : x * 2 ^ (n - i) ≤ rIn M n i := hx ▸ HR.out i (by omega)
        have hnx := hid (show rIn M n (i + 1) = rIn M n i - x * 2 ^ (n - i) from by rw [rIn, hx])
        have br := rIn_le M n i
        obtain ⟨r, hr⟩ : ∃ r, rIn M n i = r := ⟨_, rfl⟩
        rw [hr] at hle hnx br ⊢
        have P1 := fun V hV => hid (p_times V x (2 ^ (n - i)) (two_pow_digits bx (by unfold e7; omega)) (two_pow_digits (Nat.le_refl _) (by omega)) (two_pow_digits (Nat.le_trans hle br) (by have := HN.out; omega)) hV)
        have P2 := fun V hV => hid (p_sub V r (x * 2 ^ (n - i)) (two_pow_digits br (by have := HN.out; omega)) (two_pow_digits (Nat.le_trans hle br) (by have := HN.out; omega)) hle hV)
        have P0 := fun V hV => (HPow V (n - i) (by have := HN.out; omega) hV)
        obtain ⟨u1, hu1⟩ : ∃ s, numB x = s := ⟨_, rfl⟩
        obtain ⟨u2, hu2⟩ : ∃ s, numB (2 ^ (n - i)) = s := ⟨_, rfl⟩
        obtain ⟨u3, hu3⟩ : ∃ s, numB (x * 2 ^ (n - i)) = s := ⟨_, rfl⟩
        obtain ⟨u4, hu4⟩ : ∃ s, numB r = s := ⟨_, rfl⟩
        obtain ⟨u5, hu5⟩ : ∃ s, numB (r - x * 2 ^ (n - i)) = s := ⟨_, rfl⟩
        rw [hu2] at P0
        rw [hu1, hu2, hu3] at P1
        rw [hu3, hu4, hu5] at P2
        rw [hu1] at t1
        rw [hu4]
        have HU5 := hid hu5
        clear hx bx hle br hr hu1 hu2 hu3 hu4 hu5 hi hlt HPow
        go_wp2_with fail
        refine (P0 _ (HLy.out.below hB.out HLL.out)).out.mono ?_; rintro e w5 ⟨rfl, hb5⟩
        have R5 := hid (hrow.out.call hb5); have B5 := hid (hB.out.trans (hb5.mono hB.out.size))
        clear hb5 t1
        go_wp2_with fail
        refine (P1 _ (HLy.out.below B5.out HLL.out)).out.mono ?_; rintro e w6 ⟨rfl, hb6⟩
        have R6 := hid (R5.out.call hb6); have B6 := hid (B5.out.trans (hb6.mono B5.out.size))
        clear hb6
        go_wp2_with fail
        refine (P2 _ (HLy.out.below B6.out HLL.out)).out.mono ?_; rintro e w7 ⟨rfl, hb7⟩
        have R7 := hid (R6.out.call hb7); have B7 := hid (B6.out.trans (hb7.mono B6.out.size))
        clear hb7 w1'
        go_wp2_with fail
        go_roundw
        case rel => exact ⟨i + 1, by go_num, by have := IL.out; omega, by rw [hnx.out, HU5.out], R7, B7⟩
        case measure => simp [intOf] <;> (have := IL.out; omega)
      · have q5 : decide ((i : Int) < ((n + 1 : Nat) : Int)) = false := by simp; omega
        have e1 : i = n + 1 := by omega
        subst e1
        obtain ⟨u1, hu1⟩ : ∃ s, numB (rIn M n (n + 1)) = s := ⟨_, rfl⟩
        obtain ⟨u2, hu2⟩ : ∃ s, numB (2 ^ n) = s := ⟨_, rfl⟩
        have P0 := fun V hV => (HPow V n HN.out hV)
        rw [hu1, hu2] at HQM
        rw [hu2] at P0
        rw [hu1]
        clear hu1 hu2 HPow hi hlt
        go_wp2_with fail
        refine (P0 _ (HLy.out.below hB.out HLL.out)).out.mono ?_; rintro e w5 ⟨rfl, hb5⟩
        have B5 := hid (hB.out.trans (hb5.mono hB.out.size))
        clear hb5
        go_wp2_with fail
        refine (HQM _ (HLy.out.below B5.out HLL.out)).out.mono ?_; rintro e w6 ⟨rfl, hb6⟩
        have B6 := hid (B5.out.trans (hb6.mono B5.out.size))
        clear hb6
        go_wp2_with fail
        go_ret2
        exact ⟨rfl, B6.out⟩
set_option maxRecDepth 100000 in
set_option maxHeartbeats 1000000 in
theorem g_TwoLate (w : World) (a : ByteArray) (n N D : Nat) (ha : a.size ≤ 100000) (he : gPE a = 0) (hn : n ≤ 256) (hN : bN (cW a) = N) (hD : bN (qD a) = D) (hND : N < D) (hL : Lay w)
    (hR : ∀ i, i ≤ n → (lateL true (tOut (oneJ N D) (zeroJ N D) n (n + 1)).2 n).getD i 0 * 2 ^ (n - i) ≤ rIn (lateL true (tOut (oneJ N D) (zeroJ N D) n (n + 1)).2 n) n i) :
    Calls Tryz.prog 10 #[.string a, .int .i64 n] w fun e w' => e = .returned (.tuple #[.string (outB (qmk false (rIn (lateL true (tOut (oneJ N D) (zeroJ N D) n (n + 1)).2 n) n (n + 1)) (2 ^ n))), .int .i64 0]) ∧ Below w.heap.size w w' := by
  have H := hid (g_late w a n N D true ha he hn hN hD hND hL hR)
  obtain ⟨out, hout⟩ : ∃ o, outB (qmk false (rIn (lateL true (tOut (oneJ N D) (zeroJ N D) n (n + 1)).2 n) n (n + 1)) (2 ^ n)) = o := ⟨_, rfl⟩
  rw [hout] at H ⊢
  clear ha he hn hN hD hND hL hR hout
  go_enter Tryz.func10, Tryz.ntmps10
  go_wp2_with fail
  refine H.out.mono ?_; rintro e w1 ⟨rfl, hb1⟩
  have B1 := hid hb1; clear hb1
  go_wp2_with fail
  go_ret2
  exact ⟨rfl, B1.out⟩
end Go.Proofs.YtccalhlhdiapiaaGreatDoor
namespace Go.Proofs.YtccalhlhdiapiaaGreatDoor
open Go.RowKit
open Go.Lib (decDigits nDigits)
set_option linter.unusedVariables false
set_option linter.unusedSimpArgs false
theorem lv_half_tx : (⟨#[49, 47, 50]⟩ : ByteArray) = txB false 1 2 := by
  unfold txB; rw [decDigits_small (show 1 < 10 by omega), decDigits_small (show 2 < 10 by omega)]; rfl
theorem quart_tx : (⟨#[51, 47, 52]⟩ : ByteArray) = txB false 3 4 := by
  unfold txB; rw [decDigits_small (show 3 < 10 by omega), decDigits_small (show 4 < 10 by omega)]; rfl
theorem nd_small {n : Nat} (h : n < 10) : nDigits n ≤ 1 := nDigits_le (k := 1) (by omega) (by omega)
theorem cW_half : cW (txB false 1 2) = numB 1 := by apply ba_ext; rw [cW_tx, numB_list]; rfl
theorem qE_half : qE (txB false 1 2) = 0 := qE_tx (by decide) (by omega) (fun h => by cases h) (by have := nd_small (show 1 < 10 by omega); omega) (by have := nd_small (show 2 < 10 by omega); omega)
theorem gPE_half : gPE (txB false 1 2) = 0 := by
  have n1 := nd_small (show 1 < 10 by omega)
  have n2 := nd_small (show 2 < 10 by omega)
  have h1 : cmpN (cW (txB false 1 2)).data.toList (qD (txB false 1 2)).data.toList = -1 := by
    rw [cW_half, qD_tx, cmpN_num (by omega) (by omega)]; rfl
  unfold gPE
  rw [qE_half, if_neg (by simp), if_neg, if_neg]
  · rw [cW_half, qD_tx, numB_size, numB_size]; omega
  · rw [h1, iM_tx]; simp
def b1B : ByteArray := ⟨#[48, 48, 49, 48]⟩
def b2B : ByteArray := ⟨#[49, 48, 49]⟩
theorem chk_b1 : chkE b1B = 0 := by decide
theorem chk_b2 : chkE b2B = 0 := by decide
theorem b1L : b1B.data.toList = [48, 48, 49, 48] := rfl
theorem b2L : b2B.data.toList = [49, 48, 49] := rfl
theorem toss_half (b : UInt8) (r : List UInt8) : toss 1 2 0 1 (b :: r) = (true, if b = 49 then 0 else 1, 1) := by
  rw [toss_next (by decide)]
  by_cases h : b = 49
  · rw [if_pos h, toss_done (by decide)]; rw [if_pos h]; rfl
  · rw [if_neg h, toss_done (by decide)]; rw [if_neg h]; rfl
theorem coin_half {l : List UInt8} {p : Nat} {b : UInt8} {r : List UInt8} (h : l.drop p = b :: r) : coinF 1 2 l p = (true, if b = 49 then 0 else 1, 1) := by
  rw [coinF_eq, h, toss_half]
theorem half_one {l : List UInt8} {m p n : Nat} {vs : List Nat} {b : UInt8} {r : List UInt8} (hm : 1 ≤ m) (hp : p ≤ l.length) (h : l.drop p = b :: r) (hb : b ≠ 49) : sr 1 2 l m p vs n = sr 1 2 l m (p + 1) vs (n + 1) := by
  have hc := coin_half h
  rw [if_neg hb] at hc
  rw [sr_one (by omega) hm hp (by rw [hc]) (by rw [hc]), hc]
theorem half_stop {l : List UInt8} {p n : Nat} {vs : List Nat} {b : UInt8} {r : List UInt8} (h : l.drop p = b :: r) (hb : b = 49) : sr 1 2 l 1 p vs n = some (vs ++ [n], p + 1) := by
  have hc := coin_half h
  rw [if_pos hb] at hc
  rw [sr_stop (by rw [hc]) (by rw [hc]; simp), hc]
theorem s1_b1 : s1 1 2 [48, 48, 49, 48] 0 0 = some (2, 3) := by
  unfold s1
  rw [half_one (by omega) (by simp) (b := 48) (r := [48, 49, 48]) rfl (by decide)]
  rw [half_one (by omega) (by simp) (b := 48) (r := [49, 48]) rfl (by decide)]
  rw [half_stop (b := 49) (r := [48]) rfl rfl]
  rfl
theorem s1_b2 : s1 1 2 [49, 48, 49] 0 0 = some (0, 1) := by
  unfold s1
  rw [half_stop (b := 49) (r := [48, 49]) rfl rfl]
  rfl
theorem s1_b3 : s1 1 2 [49, 48, 49] 1 0 = some (1, 3) := by
  unfold s1
  rw [half_one (by omega) (by simp) (b := 48) (r := [49]) rfl (by decide)]
  rw [half_stop (b := 49) (r := []) rfl rfl]
  rfl
theorem gE_b1 : gE (txB false 1 2) b1B = 0 := by unfold gE; rw [gPE_half, if_neg (by simp)]; exact chk_b1
theorem gE_b2 : gE (txB false 1 2) b2B = 0 := by unfold gE; rw [gPE_half, if_neg (by simp)]; exact chk_b2
theorem oT_b1 : oT (txB false 1 2) b1B = (true, 2, 3) := by
  rw [oT, if_pos gE_b1, cW_half, bN_num, bN_qD_tx, b1L, oneT, s1_b1]
  rfl
theorem wT_b2 : wT (txB false 1 2) b2B = (true, -1, 3) := by
  rw [wT, if_pos gE_b2, cW_half, bN_num, bN_qD_tx, b2L, twoT, s1_b2]
  dsimp only
  rw [s1_b3]
  rfl
def mL : List Nat := lateL true (tOut (oneJ 1 2) (zeroJ 1 2) 2 (2 + 1)).2 2
theorem mL_le : ∀ i, i ≤ 2 → mL.getD i 0 * 2 ^ (2 - i) ≤ rIn mL 2 i := by decide
theorem mL_r : rIn mL 2 (2 + 1) = 3 := by decide
theorem late_half : outB (qmk false (rIn mL 2 (2 + 1)) (2 ^ 2)) = txB false 3 4 := by
  rw [mL_r]
  obtain ⟨e1, e2, e3⟩ := qmk_ok (m := false) (n := 3) (d := 4) (by decide) (by omega) (fun h => by cases h)
  have n1 := nd_small (show 3 < 10 by omega)
  have n2 := nd_small (show 4 < 10 by omega)
  rw [show (2 ^ 2 : Nat) = 4 from rfl, outB, if_neg (by unfold ovQ; rw [e2, e3]; omega), txQ, e1, e2, e3]
end Go.Proofs.YtccalhlhdiapiaaGreatDoor
namespace Go.Proofs.YtccalhlhdiapiaaGreatDoor
open Go.RowKit
open Go.Lib (decDigits nDigits)
set_option linter.unusedVariables false
structure Few (ws : List Nat) : Prop where
  len : ws.length ≤ 64
  dig : ∀ x ∈ ws, nDigits x ≤ 300
  pos : 0 < ws.sum
section
variable {ws : List Nat} {m : Nat} (h : Few ws) (hm : m ≤ 256)
include h
include hm
omit hm
end
end Go.Proofs.YtccalhlhdiapiaaGreatDoor
namespace Go.Proofs.YtccalhlhdiapiaaGreatDoor
open Go.RowKit Go.Shelf
open Go.Lib (decDigits nDigits)
set_option linter.unusedVariables false
set_option linter.unusedSimpArgs false
def tb (l : List UInt8) : ByteArray := ⟨l.toArray⟩
end Go.Proofs.YtccalhlhdiapiaaGreatDoor
namespace Go.Proofs.YtccalhlhdiapiaaGreatDoor
open Go.RowKit
set_option linter.unusedVariables false
set_option linter.unusedSimpArgs false
theorem late_gL {N D : Nat} (h : N < D) (two : Bool) (n : Nat) : rIn (lateL two (tOut (oneJ N D) (zeroJ N D) n (n + 1)).2 n) n (n + 1) = gL N D two n ∧ ∀ i, i ≤ n → (lateL two (tOut (oneJ N D) (zeroJ N D) n (n + 1)).2 n).getD i 0 * 2 ^ (n - i) ≤ rIn (lateL two (tOut (oneJ N D) (zeroJ N D) n (n + 1)).2 n) n i := by
  have hs : sumN (fun i => (lateL two (tOut (oneJ N D) (zeroJ N D) n (n + 1)).2 n).getD i 0 * 2 ^ (n - i)) (n + 1) = if two = true then cw n (dec2P N D) else cw n (decP N D) := by
    cases two
    · exact tot_dec h n (Nat.le_refl n)
    · rw [if_pos rfl, ← tot_dec2 h n (Nat.le_refl n)]
      unfold lateL
      rw [if_pos rfl]
      refine sumN_congr fun i hi => ?_
      rw [cOut_all (by omega)]; rfl
  have hle : sumN (fun i => (lateL two (tOut (oneJ N D) (zeroJ N D) n (n + 1)).2 n).getD i 0 * 2 ^ (n - i)) (n + 1) ≤ 2 ^ n := by
    rw [hs]
    have h1 := cw_not (dec2P N D) n
    have h2 := cw_not (decP N D) n
    split <;> omega
  refine ⟨?_, rIn_ok hle⟩
  rw [rIn_sum hle _ (Nat.le_refl _), hs]
  cases two
  · exact (gL_dec N D n).symm
  · exact (gL_dec2 N D n).symm
end Go.Proofs.YtccalhlhdiapiaaGreatDoor
namespace Go.Proofs.YtccalhlhdiapiaaGreatDoor
open Go.RowKit
open Go.Lib (decDigits nDigits)
set_option linter.unusedVariables false
set_option linter.unusedSectionVars false
set_option linter.unusedSimpArgs false
theorem two_pw (n : Nat) : 2 ^ n ≠ 0 := Nat.ne_of_gt (Nat.pow_pos (by omega))
theorem gL_le {N D : Nat} (h : N < D) (two : Bool) (n : Nat) : gL N D two n ≤ 2 ^ n := by have := gV_sum h two n; omega
section
variable {a : ByteArray} {n : Nat} (hG : gPE a = 0) (hs : a.size ≤ 20) (hn : n ≤ 12)
include hG hs hn
end
end Go.Proofs.YtccalhlhdiapiaaGreatDoor
namespace Go.Proofs.YtccalhlhdiapiaaGreatDoor
open Go.RowKit
open Go.Lib (decDigits nDigits)
set_option linter.unusedVariables false
set_option linter.unusedSimpArgs false
def glE (a : ByteArray) (n : Int) (m : Int) : Int := if gPE a ≠ 0 then gPE a else if n < 0 ∨ m < n then 2 else 0
def glB (a : ByteArray) (n : Int) (two : Bool) : ByteArray := if glE a n 256 = 0 then shB (gL (bN (cW a)) (bN (qD a)) two n.toNat) (2 ^ n.toNat) else ⟨#[]⟩
set_option maxRecDepth 100000 in
set_option maxHeartbeats 1000000 in
theorem g_lateA (w : World) (a : ByteArray) (n : Int) (two : Bool) (ha : a.size ≤ 100000) (hL : Lay w) :
    Calls Tryz.prog 31 #[.string a, .int .i64 n, .bool two] w fun e w' => e = .returned (.tuple #[.string (glB a n two), .int .i64 (glE a n 256)]) ∧ Below w.heap.size w w' := by
  by_cases he : gPE a = 0
  · by_cases hn : n < 0 ∨ 256 < n
    · have e1 : glE a n 256 = 2 := by unfold glE; rw [if_neg (by rw [he]; simp), if_pos hn]
      have e2 : glB a n two = ⟨#[]⟩ := by unfold glB; rw [if_neg (by rw [e1]; decide)]
      rw [e1, e2]
      have HA := hid (g_ratio w a ha hL)
      rw [if_pos he, if_pos he, he] at HA
      obtain ⟨b1, k1⟩ : ∃ b, decide (n < 0) = b := ⟨_, rfl⟩
      obtain ⟨b2, k2⟩ : ∃ b, decide (256 < n) = b := ⟨_, rfl⟩
      have k3 : (b1 || b2) = true := by rw [← k1, ← k2]; simpa using hn
      clear ha hL he hn e1 e2
      cases b1
      · obtain rfl : b2 = true := by simpa using k3
        clear k3
        go_enter Tryz.func31, Tryz.ntmps31
        go_wp2_with fail
        refine HA.out.mono ?_; rintro e w1 ⟨rfl, hb1⟩
        have B1 := hid hb1; clear hb1 HA
        go_wp2_with fail
        go_ret2
        exact ⟨rfl, B1.out⟩
      · clear k2 k3
        go_enter Tryz.func31, Tryz.ntmps31
        go_wp2_with fail
        refine HA.out.mono ?_; rintro e w1 ⟨rfl, hb1⟩
        have B1 := hid hb1; clear hb1 HA
        go_wp2_with fail
        go_ret2
        exact ⟨rfl, B1.out⟩
    · obtain ⟨m, rfl⟩ : ∃ m : Nat, n = (m : Nat) := ⟨n.toNat, by omega⟩
      have e1 : glE a (m : Nat) 256 = 0 := by unfold glE; rw [if_neg (by rw [he]; simp), if_neg hn]
      have hND := (gPE_ok he).2
      obtain ⟨l1, l2⟩ := late_gL hND two m
      have := g_late w a m _ _ two ha he (by omega) rfl rfl hND hL l2
      rw [l1] at this
      unfold glB
      rw [if_pos e1, e1]
      exact this
  · have e1 : glE a n 256 = gPE a := by unfold glE; rw [if_pos he]
    have e2 : glB a n two = ⟨#[]⟩ := by unfold glB; rw [if_neg (by rw [e1]; exact he)]
    rw [e1, e2]
    have HA := hid (g_ratio w a ha hL)
    rw [if_neg he, if_neg he] at HA
    obtain ⟨x, hx⟩ : ∃ x, gPE a = x := ⟨_, rfl⟩
    rw [hx] at HA he ⊢
    have x0 : (x != 0) = true := by simpa using he
    clear ha hL he hx e1 e2
    go_enter Tryz.func31, Tryz.ntmps31
    go_wp2_with fail
    refine HA.out.mono ?_; rintro e w1 ⟨rfl, hb1⟩
    have B1 := hid hb1; clear hb1 HA
    go_wp2_with fail
    go_ret2
    exact ⟨rfl, B1.out⟩
set_option maxRecDepth 100000 in
set_option maxHeartbeats 1000000 in
theorem g_TwoLateA (w : World) (a : ByteArray) (n : Int) (ha : a.size ≤ 100000) (hL : Lay w) :
    Calls Tryz.prog 10 #[.string a, .int .i64 n] w fun e w' => e = .returned (.tuple #[.string (glB a n true), .int .i64 (glE a n 256)]) ∧ Below w.heap.size w w' := by
  have H := hid (g_lateA w a n true ha hL)
  obtain ⟨o, ho⟩ : ∃ o, glB a n true = o := ⟨_, rfl⟩
  obtain ⟨x, hx⟩ : ∃ x, glE a n 256 = x := ⟨_, rfl⟩
  rw [ho, hx] at H ⊢
  clear ha hL ho hx
  go_enter Tryz.func10, Tryz.ntmps10
  go_wp2_with fail
  refine H.out.mono ?_; rintro e w1 ⟨rfl, hb1⟩
  have B1 := hid hb1; clear hb1
  go_wp2_with fail
  go_ret2
  exact ⟨rfl, B1.out⟩
set_option maxRecDepth 100000 in
set_option maxHeartbeats 1000000 in
theorem g_OneLateA (w : World) (a : ByteArray) (n : Int) (ha : a.size ≤ 100000) (hL : Lay w) :
    Calls Tryz.prog 8 #[.string a, .int .i64 n] w fun e w' => e = .returned (.tuple #[.string (glB a n false), .int .i64 (glE a n 256)]) ∧ Below w.heap.size w w' := by
  have H := hid (g_lateA w a n false ha hL)
  obtain ⟨o, ho⟩ : ∃ o, glB a n false = o := ⟨_, rfl⟩
  obtain ⟨x, hx⟩ : ∃ x, glE a n 256 = x := ⟨_, rfl⟩
  rw [ho, hx] at H ⊢
  clear ha hL ho hx
  go_enter Tryz.func8, Tryz.ntmps8
  go_wp2_with fail
  refine H.out.mono ?_; rintro e w1 ⟨rfl, hb1⟩
  have B1 := hid hb1; clear hb1
  go_wp2_with fail
  go_ret2
  exact ⟨rfl, B1.out⟩
end Go.Proofs.YtccalhlhdiapiaaGreatDoor
namespace Go.Proofs.YtccalhlhdiapiaaGreatDoor
open Go.RowKit
set_option linter.unusedVariables false
set_option maxHeartbeats 4000000 in
theorem r1_Minus (w : World) (v u : Value) (a b : Nat) (ha : IsN .i64 w v a) (hb : IsN .i64 w u b) (hle : b ≤ a) (hla : (limbs a).length ≤ 1000000) :
    Calls Tryz.prog 72 #[v, u] w fun e w' => RetN .i64 (a - b) e w' ∧ Below w.heap.size w w' := by
  obtain ⟨i0, hi, hz0, hz1, hz2⟩ := info_parts info_int
  obtain ⟨a1, c1, rfl, h1, h2, h3⟩ := ha.openI
  obtain ⟨a2, c2, rfl, k1, k2, k3⟩ := hb.openI
  have H3 := hid h3; have K3 := hid k3; clear h3 k3 ha hb
  have hmn := limbs_length_mono hle
  obtain ⟨n, ea⟩ : ∃ n, (limbs a).length = n := ⟨_, rfl⟩
  obtain ⟨m, eb⟩ : ∃ m, (limbs b).length = m := ⟨_, rfl⟩
  rw [ea] at h1 hla hmn ⊢
  rw [eb] at k1 hmn ⊢
  have HA := hid ea; have HB := hid eb; have HL := hid hle
  clear ea eb hle
  go_enter Tryz.func72, Tryz.ntmps72
  go_wp2_with fail
  go_loopw [5, 6, 7, 8] (fun o cc i nn wr => ∃ (s : List Nat) (c : Nat) (C : Int), i = .int .i64 s.length ∧ cc = .int .i64 C ∧ C = (c : Int) ∧ c ≤ 1 ∧ s.length ≤ n ∧ Hid (MinusI a b s c) ∧ Hid (wr.ownsRow w.heap.size 3 1 o s.length (ints .i64 s)) ∧ Hid (Below w.heap.size w wr))
    (fun _ _ i _ _ => n - (intOf i).toNat)
  case atStart => exact ⟨[], 0, 0, rfl, rfl, rfl, by omega, by simp, MinusI.start a b, World.ownsRow_nil _ _ _ _, Below.refl _ _⟩
  case round =>
    obtain ⟨s, c, C, rfl, rfl, hC, hc1, hs1, hP, hO, hB⟩ := hrel
    obtain ⟨ao, co, rfl⟩ := owns_ex hO.out
    by_cases hA : s.length < n
    · obtain ⟨x, hx⟩ : ∃ x, (limbs a)[s.length]? = some x := ⟨_, List.getElem?_eq_getElem (by rw [HA.out]; exact hA)⟩
      obtain ⟨g, og, rfl, hg, hc⟩ := H3.out _ x hx
      have hc' := (hB.out.cell (p := ⟨g, og + s.length, none⟩) hg).trans hc
      have hxl := (sm_limbs a).get hx
      have HX := hid hx; clear hx hc
      by_cases hB' : s.length < m
      · obtain ⟨y, hy⟩ : ∃ y, (limbs b)[s.length]? = some y := ⟨_, List.getElem?_eq_getElem (by rw [HB.out]; exact hB')⟩
        obtain ⟨g', og', rfl, hg', hd⟩ := K3.out _ y hy
        have hd' := (hB.out.cell (p := ⟨g', og' + s.length, none⟩) hg').trans hd
        have hyl := (sm_limbs b).get hy
        have HY := hid hy; clear hy hd
        rcases (show c = 0 ∨ c = 1 by omega) with rfl | rfl
        · obtain rfl : C = 0 := by omega
          clear hC
          by_cases hneg : x < y + 0
          · obtain ⟨z, hz0', hz1', hzI⟩ : ∃ z : Nat, x + 1000000000 * 1 = z + 0 + y ∧ z < 1000000000 ∧ Hid ((↑x - ↑y + 1000000000 : Int) = (z : Int)) := ⟨((↑x - ↑y + 1000000000 : Int)).toNat, by omega, by omega, by rw [Hid]; omega⟩
            have HN := hid (hP.out.next (z := z) (c' := 1) (by rw [getD_of HX.out, getD_of HY.out]; omega) hz1' (by omega))
            clear hz0' hz1'
            have q1 : decide ((x : Int) - (y : Int) < 0) = true := by simp <;> omega
            clear hneg
            go_wp2_with (at_builtin; refine wpList_append_own _ rfl _ _ 59 rfl w.heap.size 3 i0 (.int .i64 0) 1 8 Tryz.underlying59 hi hz0 hz1 hz2 rfl (by decide) _ s.length _ rfl (hO.out.alloc _) ⟨wr.heap.size, 0, none⟩ 1 1 [.int .i64 ((↑x - ↑y + 1000000000 : Int))] rfl rfl (cell_one_new wr (.int .i64 ((↑x - ↑y + 1000000000 : Int))) 3) (by simp [Value.oneCell']) (by unfold maxLen; omega) (by omega) (by have := hB.out.size; simp; omega) ?_; intro v' w3 hown3 hgrow3 _; have HO3 := hid hown3; have HG3 := hid hgrow3; clear hown3 hgrow3)
            rw [hzI.out] at HO3
            obtain ⟨n1, n2⟩ := own_next hO.out hB.out HO3.out HG3.out
            have N1 := hid n1; have N2 := hid n2; clear n1 n2 HO3 HG3
            obtain ⟨a3, k3, rfl⟩ := owns_ex N1.out
            go_wp2_with fail
            go_roundw
            case rel => exact ⟨s ++ [z], 1, _, by simp, rfl, by simp, by omega, by simp <;> omega, HN, N1, N2⟩
            case measure => simp [intOf] <;> omega
          · obtain ⟨z, hz0', hz1', hzI⟩ : ∃ z : Nat, x + 1000000000 * 0 = z + 0 + y ∧ z < 1000000000 ∧ Hid ((↑x - ↑y : Int) = (z : Int)) := ⟨((↑x - ↑y : Int)).toNat, by omega, by omega, by rw [Hid]; omega⟩
            have HN := hid (hP.out.next (z := z) (c' := 0) (by rw [getD_of HX.out, getD_of HY.out]; omega) hz1' (by omega))
            clear hz0' hz1'
            have q1 : decide ((x : Int) - (y : Int) < 0) = false := by simp <;> omega
            clear hneg
            go_wp2_with (at_builtin; refine wpList_append_own _ rfl _ _ 59 rfl w.heap.size 3 i0 (.int .i64 0) 1 8 Tryz.underlying59 hi hz0 hz1 hz2 rfl (by decide) _ s.length _ rfl (hO.out.alloc _) ⟨wr.heap.size, 0, none⟩ 1 1 [.int .i64 ((↑x - ↑y : Int))] rfl rfl (cell_one_new wr (.int .i64 ((↑x - ↑y : Int))) 3) (by simp [Value.oneCell']) (by unfold maxLen; omega) (by omega) (by have := hB.out.size; simp; omega) ?_; intro v' w3 hown3 hgrow3 _; have HO3 := hid hown3; have HG3 := hid hgrow3; clear hown3 hgrow3)
            rw [hzI.out] at HO3
            obtain ⟨n1, n2⟩ := own_next hO.out hB.out HO3.out HG3.out
            have N1 := hid n1; have N2 := hid n2; clear n1 n2 HO3 HG3
            obtain ⟨a3, k3, rfl⟩ := owns_ex N1.out
            go_wp2_with fail
            go_roundw
            case rel => exact ⟨s ++ [z], 0, _, by simp, rfl, by simp, by omega, by simp <;> omega, HN, N1, N2⟩
            case measure => simp [intOf] <;> omega
        · obtain rfl : C = 1 := by omega
          clear hC
          by_cases hneg : x < y + 1
          · obtain ⟨z, hz0', hz1', hzI⟩ : ∃ z : Nat, x + 1000000000 * 1 = z + 1 + y ∧ z < 1000000000 ∧ Hid ((↑x - 1 - ↑y + 1000000000 : Int) = (z : Int)) := ⟨((↑x - 1 - ↑y + 1000000000 : Int)).toNat, by omega, by omega, by rw [Hid]; omega⟩
            have HN := hid (hP.out.next (z := z) (c' := 1) (by rw [getD_of HX.out, getD_of HY.out]; omega) hz1' (by omega))
            clear hz0' hz1'
            have q1 : decide ((x : Int) - 1 - (y : Int) < 0) = true := by simp <;> omega
            clear hneg
            go_wp2_with (at_builtin; refine wpList_append_own _ rfl _ _ 59 rfl w.heap.size 3 i0 (.int .i64 0) 1 8 Tryz.underlying59 hi hz0 hz1 hz2 rfl (by decide) _ s.length _ rfl (hO.out.alloc _) ⟨wr.heap.size, 0, none⟩ 1 1 [.int .i64 ((↑x - 1 - ↑y + 1000000000 : Int))] rfl rfl (cell_one_new wr (.int .i64 ((↑x - 1 - ↑y + 1000000000 : Int))) 3) (by simp [Value.oneCell']) (by unfold maxLen; omega) (by omega) (by have := hB.out.size; simp; omega) ?_; intro v' w3 hown3 hgrow3 _; have HO3 := hid hown3; have HG3 := hid hgrow3; clear hown3 hgrow3)
            rw [hzI.out] at HO3
            obtain ⟨n1, n2⟩ := own_next hO.out hB.out HO3.out HG3.out
            have N1 := hid n1; have N2 := hid n2; clear n1 n2 HO3 HG3
            obtain ⟨a3, k3, rfl⟩ := owns_ex N1.out
            go_wp2_with fail
            go_roundw
            case rel => exact ⟨s ++ [z], 1, _, by simp, rfl, by simp, by omega, by simp <;> omega, HN, N1, N2⟩
            case measure => simp [intOf] <;> omega
          · obtain ⟨z, hz0', hz1', hzI⟩ : ∃ z : Nat, x + 1000000000 * 0 = z + 1 + y ∧ z < 1000000000 ∧ Hid ((↑x - 1 - ↑y : Int) = (z : Int)) := ⟨((↑x - 1 - ↑y : Int)).toNat, by omega, by omega, by rw [Hid]; omega⟩
            have HN := hid (hP.out.next (z := z) (c' := 0) (by rw [getD_of HX.out, getD_of HY.out]; omega) hz1' (by omega))
            clear hz0' hz1'
            have q1 : decide ((x : Int) - 1 - (y : Int) < 0) = false := by simp <;> omega
            clear hneg
            go_wp2_with (at_builtin; refine wpList_append_own _ rfl _ _ 59 rfl w.heap.size 3 i0 (.int .i64 0) 1 8 Tryz.underlying59 hi hz0 hz1 hz2 rfl (by decide) _ s.length _ rfl (hO.out.alloc _) ⟨wr.heap.size, 0, none⟩ 1 1 [.int .i64 ((↑x - 1 - ↑y : Int))] rfl rfl (cell_one_new wr (.int .i64 ((↑x - 1 - ↑y : Int))) 3) (by simp [Value.oneCell']) (by unfold maxLen; omega) (by omega) (by have := hB.out.size; simp; omega) ?_; intro v' w3 hown3 hgrow3 _; have HO3 := hid hown3; have HG3 := hid hgrow3; clear hown3 hgrow3)
            rw [hzI.out] at HO3
            obtain ⟨n1, n2⟩ := own_next hO.out hB.out HO3.out HG3.out
            have N1 := hid n1; have N2 := hid n2; clear n1 n2 HO3 HG3
            obtain ⟨a3, k3, rfl⟩ := owns_ex N1.out
            go_wp2_with fail
            go_roundw
            case rel => exact ⟨s ++ [z], 0, _, by simp, rfl, by simp, by omega, by simp <;> omega, HN, N1, N2⟩
            case measure => simp [intOf] <;> omega
      · skip
        rcases (show c = 0 ∨ c = 1 by omega) with rfl | rfl
        · obtain rfl : C = 0 := by omega
          clear hC
          by_cases hneg : x < 0 + 0
          · omega
          · obtain ⟨z, hz0', hz1', hzI⟩ : ∃ z : Nat, x + 1000000000 * 0 = z + 0 + 0 ∧ z < 1000000000 ∧ Hid ((↑x : Int) = (z : Int)) := ⟨((↑x : Int)).toNat, by omega, by omega, by rw [Hid]; omega⟩
            have HN := hid (hP.out.next (z := z) (c' := 0) (by rw [getD_of HX.out, getD_none (by rw [HB.out]; omega)]; omega) hz1' (by omega))
            clear hz0' hz1'
            have q1 : decide ((x : Int) < 0) = false := by simp <;> omega
            clear hneg
            go_wp2_with (at_builtin; refine wpList_append_own _ rfl _ _ 59 rfl w.heap.size 3 i0 (.int .i64 0) 1 8 Tryz.underlying59 hi hz0 hz1 hz2 rfl (by decide) _ s.length _ rfl (hO.out.alloc _) ⟨wr.heap.size, 0, none⟩ 1 1 [.int .i64 ((↑x : Int))] rfl rfl (cell_one_new wr (.int .i64 ((↑x : Int))) 3) (by simp [Value.oneCell']) (by unfold maxLen; omega) (by omega) (by have := hB.out.size; simp; omega) ?_; intro v' w3 hown3 hgrow3 _; have HO3 := hid hown3; have HG3 := hid hgrow3; clear hown3 hgrow3)
            rw [hzI.out] at HO3
            obtain ⟨n1, n2⟩ := own_next hO.out hB.out HO3.out HG3.out
            have N1 := hid n1; have N2 := hid n2; clear n1 n2 HO3 HG3
            obtain ⟨a3, k3, rfl⟩ := owns_ex N1.out
            go_wp2_with fail
            go_roundw
            case rel => exact ⟨s ++ [z], 0, _, by simp, rfl, by simp, by omega, by simp <;> omega, HN, N1, N2⟩
            case measure => simp [intOf] <;> omega
        · obtain rfl : C = 1 := by omega
          clear hC
          by_cases hneg : x < 0 + 1
          · obtain ⟨z, hz0', hz1', hzI⟩ : ∃ z : Nat, x + 1000000000 * 1 = z + 1 + 0 ∧ z < 1000000000 ∧ Hid ((↑x - 1 + 1000000000 : Int) = (z : Int)) := ⟨((↑x - 1 + 1000000000 : Int)).toNat, by omega, by omega, by rw [Hid]; omega⟩
            have HN := hid (hP.out.next (z := z) (c' := 1) (by rw [getD_of HX.out, getD_none (by rw [HB.out]; omega)]; omega) hz1' (by omega))
            clear hz0' hz1'
            have q1 : decide ((x : Int) - 1 < 0) = true := by simp <;> omega
            clear hneg
            go_wp2_with (at_builtin; refine wpList_append_own _ rfl _ _ 59 rfl w.heap.size 3 i0 (.int .i64 0) 1 8 Tryz.underlying59 hi hz0 hz1 hz2 rfl (by decide) _ s.length _ rfl (hO.out.alloc _) ⟨wr.heap.size, 0, none⟩ 1 1 [.int .i64 ((↑x - 1 + 1000000000 : Int))] rfl rfl (cell_one_new wr (.int .i64 ((↑x - 1 + 1000000000 : Int))) 3) (by simp [Value.oneCell']) (by unfold maxLen; omega) (by omega) (by have := hB.out.size; simp; omega) ?_; intro v' w3 hown3 hgrow3 _; have HO3 := hid hown3; have HG3 := hid hgrow3; clear hown3 hgrow3)
            rw [hzI.out] at HO3
            obtain ⟨n1, n2⟩ := own_next hO.out hB.out HO3.out HG3.out
            have N1 := hid n1; have N2 := hid n2; clear n1 n2 HO3 HG3
            obtain ⟨a3, k3, rfl⟩ := owns_ex N1.out
            go_wp2_with fail
            go_roundw
            case rel => exact ⟨s ++ [z], 1, _, by simp, rfl, by simp, by omega, by simp <;> omega, HN, N1, N2⟩
            case measure => simp [intOf] <;> omega
          · obtain ⟨z, hz0', hz1', hzI⟩ : ∃ z : Nat, x + 1000000000 * 0 = z + 1 + 0 ∧ z < 1000000000 ∧ Hid ((↑x - 1 : Int) = (z : Int)) := ⟨((↑x - 1 : Int)).toNat, by omega, by omega, by rw [Hid]; omega⟩
            have HN := hid (hP.out.next (z := z) (c' := 0) (by rw [getD_of HX.out, getD_none (by rw [HB.out]; omega)]; omega) hz1' (by omega))
            clear hz0' hz1'
            have q1 : decide ((x : Int) - 1 < 0) = false := by simp <;> omega
            clear hneg
            go_wp2_with (at_builtin; refine wpList_append_own _ rfl _ _ 59 rfl w.heap.size 3 i0 (.int .i64 0) 1 8 Tryz.underlying59 hi hz0 hz1 hz2 rfl (by decide) _ s.length _ rfl (hO.out.alloc _) ⟨wr.heap.size, 0, none⟩ 1 1 [.int .i64 ((↑x - 1 : Int))] rfl rfl (cell_one_new wr (.int .i64 ((↑x - 1 : Int))) 3) (by simp [Value.oneCell']) (by unfold maxLen; omega) (by omega) (by have := hB.out.size; simp; omega) ?_; intro v' w3 hown3 hgrow3 _; have HO3 := hid hown3; have HG3 := hid hgrow3; clear hown3 hgrow3)
            rw [hzI.out] at HO3
            obtain ⟨n1, n2⟩ := own_next hO.out hB.out HO3.out HG3.out
            have N1 := hid n1; have N2 := hid n2; clear n1 n2 HO3 HG3
            obtain ⟨a3, k3, rfl⟩ := owns_ex N1.out
            go_wp2_with fail
            go_roundw
            case rel => exact ⟨s ++ [z], 0, _, by simp, rfl, by simp, by omega, by simp <;> omega, HN, N1, N2⟩
            case measure => simp [intOf] <;> omega
    · obtain rfl : s.length = n := by omega
      have hv := hid (hP.out.done HA.out.symm HL.out)
      go_wp2_with (go_at_call 85; refine (r1_trim _ _ s hP.out.sm (Row.of_owns hO.out)).mono ?_; rintro e w1 ⟨⟨v1, rfl, hv1⟩, rfl⟩)
      go_ret
      exact ⟨⟨v1, rfl, by rw [← hv.out]; exact hv1⟩, hB.out⟩
end Go.Proofs.YtccalhlhdiapiaaGreatDoor
namespace Go.Proofs.YtccalhlhdiapiaaGreatDoor
open Go.RowKit Go.Shelf
open Go.Lib (decDigits nDigits)
set_option linter.unusedVariables false
set_option linter.unusedSimpArgs false
set_option maxRecDepth 100000 in
set_option maxHeartbeats 1000000 in
theorem r3_Share (w : World) (v : Value) (m n : Nat) (hv : IsN .i64 w v m) (hn : n ≤ 256) (hm : m ≤ 2 ^ 256) :
    Calls Tryz.prog 71 #[v, .int .i64 (n : Nat)] w fun e w' => e = .returned (.string (shB m (2 ^ n))) ∧ Below w.heap.size w w' := by
  have RT := fun V => hid (r3_Two V n (by omega))
  obtain ⟨t, ht⟩ : ∃ t, 2 ^ n = t := ⟨_, rfl⟩
  rw [ht] at RT ⊢
  have tle : t ≤ 2 ^ 256 := by rw [← ht]; exact Nat.pow_le_pow_right (by omega) (by omega)
  have tpos : t ≠ 0 := by rw [← ht]; exact Nat.ne_of_gt (Nat.pow_pos (by omega))
  have big : ∀ x, x ≤ 2 ^ 256 → nDigits x ≤ 78 := fun x hx => nDigits_le (by omega) (Nat.lt_of_le_of_lt hx (by decide))
  have dm := big m hm; have dt := big t tle
  have LM : Hid ((limbs m).length ≤ 1000000) := num_limbs (by omega)
  have LT : Hid ((limbs t).length ≤ 1000000) := num_limbs (by omega)
  have RM := fun V => hid (r2_Make_num V m t (by omega) (by omega) tpos)
  have V0 := hid hv
  clear hv ht tle tpos big hm dm dt
  go_enter Tryz.func71, Tryz.ntmps71
  go_wp2_with fail
  refine (r1_Write _ _ _ V0.out LM.out).mono ?_; rintro e w1 ⟨rfl, hb1⟩
  have B1 := hid hb1; clear hb1
  go_wp2_with fail
  refine (RT _).out.mono ?_; rintro e w2 ⟨⟨v2, rfl, hv2⟩, hb2⟩
  have V2 := hid hv2; have B2 := hid (bnext B1.out hb2); clear hv2 hb2
  go_wp2_with fail
  refine (r1_Write _ _ _ V2.out LT.out).mono ?_; rintro e w3 ⟨rfl, hb3⟩
  have B3 := hid (bnext B2.out hb3); clear hb3
  go_wp2_with fail
  refine (RM _).out.mono ?_; rintro e w4 ⟨rfl, hb4⟩
  have B4 := hid (bnext B3.out hb4); clear hb4
  go_wp2_with fail
  go_ret
  exact ⟨rfl, B4.out⟩
end Go.Proofs.YtccalhlhdiapiaaGreatDoor
namespace Go.Proofs.YtccalhlhdiapiaaGreatDoor
open Go.RowKit Go.Shelf
open Go.Lib (decDigits nDigits)
set_option linter.unusedVariables false
set_option linter.unusedSimpArgs false
def ltB (x z : ByteArray) : Bool := Op.bytesLess x.toList z.toList
def addL (L : List (ByteArray × ByteArray)) (key p : ByteArray) : List (ByteArray × ByteArray) :=
  if p = ⟨#[48]⟩ then L else L.takeWhile (fun x => ltB x.1 key) ++ (key, p) :: L.dropWhile (fun x => ltB x.1 key)
theorem take_cut {L : List (ByteArray × ByteArray)} {f : ByteArray × ByteArray → Bool} : ∀ {k : Nat}, (∀ j x, j < k → L[j]? = some x → f x = true) → (∀ x, L[k]? = some x → f x = false) → L.takeWhile f = L.take k ∧ L.dropWhile f = L.drop k := by
  induction L with
  | nil => intro k _ _; simp
  | cons a r ih =>
    intro k h1 h2
    cases k with
    | zero =>
      have := h2 a (by simp)
      simp [this]
    | succ k =>
      have ha := h1 0 a (by omega) (by simp)
      obtain ⟨e1, e2⟩ := ih (k := k) (fun j x hj hx => h1 (j + 1) x (by omega) (by simpa using hx)) (fun x hx => h2 x (by simpa using hx))
      simp [ha, e1, e2]
theorem step_append_any {P : Program} (w : World) {ops : Array Oper} {o : Oper} {a : Act} {K : Act → World → Prop} {Q : Exit → Act → World → Prop} {E : Prop} (hgd : o.guard = none) (s x : Operand) (t : TypeId)
    (ho : o.op = .call { callee := .builtin .append, args := #[s, x], argTypes := #[t, t] })
    (base : Nat) (e : TypeId) (i : TypeInfo) (z : Value) (size bytes : Nat) (ht : P.underlying t = some (.slice e)) (hi : P.info? e = some i) (hz : i.zero = some z)
    (hsize : i.size = size) (hby : i.bytes = bytes) (hzs : z.cells.size = size) (hsz : 0 < size)
    (v : Value) (n : Nat) (xs : List Value) (hs : a.eval s = v) (hown : w.ownsRow base e size v n xs) (hv : v ≠ .slice none 0 0)
    (ao : Option Addr) (m c : Nat) (news : List Value) (hx : a.eval x = .slice ao m c) (hl : news.length = m * size) (hnews : ∀ j u, news[j]? = some u → ∃ ad, ao = some ad ∧ w.cell? (ad.add j) = some u) (h1 : ∀ u ∈ news, u.oneCell' = true)
    (h63 : n + m ≤ maxLen) (hbytes : (n + m) * bytes ≤ 140737488355328) (hbase : base ≤ w.heap.size)
    (h : ∀ v' w', w'.ownsRow base e size v' (n + m) (xs ++ news) → w.grownBy w' v.ownBlock → v' ≠ .slice none 0 0 → K (a.put o.dst v') w') :
    if Region.wanted o (yielded ops a.tmps) = true then Oper.wp P o a w K Q else E := by
  have hw : Region.wanted o (yielded ops a.tmps) = true := by simp [Region.wanted, hgd]
  rw [if_pos hw]
  have key : ∃ v' w', (Builtin.append_ #[t, t] o.type #[v, .slice ao m c]).run P w = .ok v' w' ∧ w'.ownsRow base e size v' (n + m) (xs ++ news) ∧ w.grownBy w' v.ownBlock ∧ v' ≠ .slice none 0 0 := by
    cases ao with
    | some ad =>
      obtain ⟨v', w', hr, k1, k2, k3, -⟩ := run_append_own_at (P := P) w base t o.type e i z size bytes ht hi hz hsize hby hzs hsz v n xs hown ad m c news hl (fun j u hu => by obtain ⟨ad', e', hc⟩ := hnews j u hu; cases e'; exact hc) h1 h63 hbytes hbase
      exact ⟨v', w', hr, k1, k2, fun e => hv (k3.1 e).1⟩
    | none =>
      have hn : news = [] := by
        cases news with
        | nil => rfl
        | cons u r => obtain ⟨ad, e, _⟩ := hnews 0 u rfl; cases e
      subst hn
      have hm : m = 0 := by
        rcases Nat.eq_zero_or_pos m with h | h
        · exact h
        · have := Nat.mul_pos h hsz; simp at hl; omega
      subst hm
      refine ⟨v, w, ?_, by simpa using hown, ⟨rfl, rfl, rfl, Nat.le_refl _, fun _ _ _ => rfl⟩, hv⟩
      rcases hown.2 with ⟨e, _⟩ | ⟨g, cap, cur, rfl, hb, hg, h1', h2', h3', h4'⟩
      · exact absurd e hv
      · simp [Builtin.append_, run_underlying ht, sizeOf, typeInfo, hi, Builtin.lenOf, Builtin.firstCells, loadCells, loadCellsFrom, storeCells, h1']
  obtain ⟨v', w', hr, h2, h3, h4⟩ := key
  unfold Oper.wp execOp
  simp only [ho, resolve, invoke, builtin, Sem.run_bind, Sem.run_pure, Result.andThen_ok, List.map_toArray, List.map_cons, List.map_nil, hs, hx, hr]
  exact h v' w' h2 h3 h4
theorem massC_one (M : List (ByteArray × ByteArray)) : ∀ u ∈ massC M, u.oneCell' = true := by
  intro u hu
  obtain ⟨x, _, hx⟩ := List.mem_flatMap.1 hu
  simp at hx
  rcases hx with rfl | rfl <;> rfl
theorem massC_append_one (M : List (ByteArray × ByteArray)) (x y : ByteArray) : massC (M ++ [(x, y)]) = massC M ++ [.string x, .string y] := massC_append _ _
theorem massC_cells {W : World} {g : Nat} : ∀ {M : List (ByteArray × ByteArray)} {O : Nat}, (∀ (i : Nat) (y : ByteArray × ByteArray), M[i]? = some y → W.cell? ⟨g, O + 2 * i, none⟩ = some (.string y.1) ∧ W.cell? ⟨g, O + 2 * i + 1, none⟩ = some (.string y.2)) → ∀ (j : Nat) (u : Value), (massC M)[j]? = some u → W.cell? ⟨g, O + j, none⟩ = some u := by
  intro M
  induction M with
  | nil => intro O _ j u hu; simp [massC] at hu
  | cons q r ih =>
    intro O h j u hu
    have e : massC (q :: r) = .string q.1 :: .string q.2 :: massC r := rfl
    rw [e] at hu
    match j, hu with
    | 0, hu => simp at hu; subst hu; exact (h 0 q rfl).1
    | 1, hu => simp at hu; subst hu; exact (h 0 q rfl).2
    | j + 2, hu =>
      have := ih (O := O + 2) (fun i y hy => by
        have := h (i + 1) y (by simpa using hy)
        rw [show O + 2 * (i + 1) = O + 2 + 2 * i by omega] at this
        exact this) j u (by simpa using hu)
      rw [show O + (j + 2) = O + 2 + j by omega]
      exact this
theorem mass_at {W : World} {B : Nat} {x y : ByteArray} {t : TypeId} {fr : Nat × Nat} (h : W.heap[B]? = some (.cells #[.string x, .string y] t fr)) : ∀ (j : Nat) (u : Value), [Value.string x, Value.string y][j]? = some u → ∃ ad, some (⟨B, 0, none⟩ : Addr) = some ad ∧ W.cell? (ad.add j) = some u := fun j u hu => ⟨_, rfl, World.news_of_block h j u hu⟩
theorem own_below2 {w0 W w3 : World} {t : TypeId} {z : Nat} {v : Value} {m : Nat} {vs : List Value} (h : W.ownsRow w0.heap.size t z v m vs) (h0 : Below w0.heap.size w0 W) (hg : W.grownBy w3 v.ownBlock) : Below w0.heap.size w0 w3 := by
  refine h0.trans ⟨hg.os, hg.tape, hg.output, hg.size, fun j hj => hg.block j (Nat.lt_of_lt_of_le hj h0.size) fun e => ?_⟩
  have := (h.lt j e.symm).1
  omega
theorem own_zero_at {w X : World} {B : Nat} {t : TypeId} (hB : X.heap.size = B) (h : w.heap.size ≤ X.heap.size) : (X.alloc (.cells #[] t)).ownsRow w.heap.size t 2 (.slice (some ⟨B, 0, none⟩) 0 0) 0 [] := by subst hB; exact World.ownsRow_made _ _ 0 h (by unfold maxLen; omega) rfl
set_option maxRecDepth 100000 in
set_option maxHeartbeats 2000000 in
theorem r4_Add (w : World) (v : Value) (L : List (ByteArray × ByteArray)) (key p : ByteArray) (hv : MRow w v L) (hn : L.length ≤ 1000) :
    Calls Tryz.prog 81 #[v, .string key, .string p] w fun e w' => (∃ u, e = .returned u ∧ MRow w' u (addL L key p)) ∧ Below w.heap.size w w' := by
  obtain ⟨i0, hi, hz0, hz1, hz2⟩ := info_parts info_mass
  have HV := hid hv
  obtain ⟨a, c, rfl, h1, h2, h3⟩ := hv.ex
  obtain ⟨n, hN⟩ : ∃ n, L.length = n := ⟨_, rfl⟩
  rw [hN] at h1 HV hn ⊢
  have HN := hid hN; have H3 := hid h3
  clear hv h3 hN
  by_cases hp : p = ⟨#[48]⟩
  · have e : Hid (addL L key p = L) := by show addL L key p = L; rw [addL, if_pos hp]
    rw [e.out]
    have q0 : (p.toList == [48]) = true := by subst hp; rw [Lib.toList_data]; rfl
    clear hp e
    go_enter Tryz.func81, Tryz.ntmps81
    go_wp2_with fail
    go_ret
    exact ⟨⟨_, rfl, HV.out⟩, Below.refl _ _⟩
  · have E : Hid (addL L key p = L.takeWhile (fun x => ltB x.1 key) ++ (key, p) :: L.dropWhile (fun x => ltB x.1 key)) := by show addL L key p = _; rw [addL, if_neg hp]
    have q0 : (p.toList == [48]) = false := ne_lit hp
    rw [E.out]
    clear hp E
    go_enter Tryz.func81, Tryz.ntmps81
    go_wp2_with fail
    go_loop [7] (fun ii => ∃ k : Nat, ii = .int .i64 k ∧ k ≤ n ∧ Hid (∀ j x, j < k → L[j]? = some x → ltB x.1 key = true)) (fun ii => n - (intOf ii).toNat)
    case atStart => exact ⟨0, rfl, Nat.zero_le _, fun j x hj => absurd hj (by omega)⟩
    case round =>
      obtain ⟨k, rfl, hk, hI⟩ := hrel
      have c1 : (0 : Int) ≤ (k : Int) := by omega
      by_cases hlt : k < n
      · obtain ⟨x, hx⟩ : ∃ x, L[k]? = some x := ⟨_, List.getElem?_eq_getElem (by rw [HN.out]; exact hlt)⟩
        obtain ⟨g, o, rfl, hg, hc, -⟩ := H3.out k x hx
        have HX := hid hx
        rw [Nat.mul_comm 2 k] at hc
        have c2 : (k : Int) < (n : Int) := by omega
        have wi : IntKind.i64.wrap ((k : Int) + 1) = ((k + 1 : Nat) : Int) := by rw [IntWalk.i64_in _ ⟨by omega, by omega⟩]; omega
        obtain ⟨lb, hlb⟩ : ∃ b, Op.bytesLess x.1.toList key.toList = b := ⟨_, rfl⟩
        have HLB := hid (show ltB x.1 key = lb from hlb)
        clear hx
        have SRC1 : Hid (∀ W, Below w.heap.size w W → ∀ j u, (massC (L.take k))[j]? = some u → ∃ ad, some (⟨g, o, none⟩ : Addr) = some ad ∧ W.cell? (ad.add j) = some u) := fun W hW j u hu => by
          refine ⟨_, rfl, ?_⟩
          rw [Addr.add_lit]
          refine massC_cells (fun i y hy => ?_) j u hu
          rw [List.getElem?_take] at hy
          split at hy
          · obtain ⟨g', o', e, k0, k1, k2⟩ := H3.out i y hy
            simp only [Option.some.injEq, Addr.mk.injEq] at e
            obtain ⟨rfl, rfl, -⟩ := e
            exact ⟨(hW.cell (p := ⟨g, _, none⟩) hg).trans k1, (hW.cell (p := ⟨g, _, none⟩) hg).trans k2⟩
          · cases hy
        have SRC2 : Hid (∀ W, Below w.heap.size w W → ∀ j u, (massC (L.drop k))[j]? = some u → ∃ ad, some (⟨g, o + k * 2, none⟩ : Addr) = some ad ∧ W.cell? (ad.add j) = some u) := fun W hW j u hu => by
          refine ⟨_, rfl, ?_⟩
          rw [Addr.add_lit]
          refine massC_cells (fun i y hy => ?_) j u hu
          rw [List.getElem?_drop] at hy
          obtain ⟨g', o', e, k0, k1, k2⟩ := H3.out _ y hy
          simp only [Option.some.injEq, Addr.mk.injEq] at e
          obtain ⟨rfl, rfl, -⟩ := e
          rw [show o + 2 * (k + i) = o + k * 2 + 2 * i by omega] at k1 k2
          exact ⟨(hW.cell (p := ⟨g, _, none⟩) hg).trans k1, (hW.cell (p := ⟨g, _, none⟩) hg).trans k2⟩
        have SL1 : Hid ((massC (L.take k)).length = k * 2) := by show _ = _; rw [massC_length, List.length_take_of_le (by rw [HN.out]; omega)]
        have SL2 : Hid ((massC (L.drop k)).length = (n - k) * 2) := by show _ = _; rw [massC_length, List.length_drop, HN.out]
        have MZ2 : Hid (((w.alloc (.cells #[] 33)).alloc (.cells #[.string key, .string p] 33)).drew.heap[w.heap.size + 1]? = some (.cells #[.string key, .string p] 33 (0, 0))) := by
          have := heap_alloc_new (w.alloc (.cells #[] 33)) (.cells #[.string key, .string p] 33)
          rw [show (w.alloc (.cells #[] 33)).heap.size = w.heap.size + 1 from by simp] at this
          exact this
        have MZ3 : Hid (((w.alloc (.cells #[.string key, .string p] 33)).alloc (.cells #[] 33)).drew.heap[w.heap.size]? = some (.cells #[.string key, .string p] 33 (0, 0))) := (heap_alloc_old (w.alloc (.cells #[.string key, .string p] 33)) (.cells #[] 33) (by simp)).trans (heap_alloc_new w (.cells #[.string key, .string p] 33))
        have d1 : (k : Int) ≤ (c : Int) := by omega
        have d2 : (k : Int) ≤ (n : Int) := by omega
        have d3 : (n : Int) ≤ (c : Int) := by omega
        have d4 : ¬ c = k := by omega
        cases lb
        · have TK := hid (take_cut (L := L) (f := fun x => ltB x.1 key) (k := k) hI.out (fun y hy => by have := HX.out; rw [hy] at this; cases this; exact HLB.out))
          go_wp2_with fail
          go_region_held3 (fun _ => True) (first | trivial)
            (first
              | (refine step_append_any _ rfl _ _ _ rfl w.heap.size 33 i0 _ 2 32 Tryz.underlying28 hi hz0 hz1 hz2 rfl (by decide) (.slice (some ⟨_, 0, none⟩) 0 0) 0 [] rfl (by first | exact (own_zero_at rfl (Nat.le_refl _)).drew | exact ((own_zero_at rfl (Nat.le_refl _)).alloc _).drew | exact (own_zero_at (by simp) (by simp)).drew) (by intro e; cases e) (some ⟨g, o, none⟩) k c (massC (L.take k)) rfl SL1.out (SRC1.out _ (by first | exact ((Below.refl _ _).alloc (Nat.le_refl _) _).drew | exact (((Below.refl _ _).alloc (Nat.le_refl _) _).alloc (by simp) _).drew)) (massC_one _) (by unfold maxLen; omega) (by omega) (by simp <;> omega) ?_; intro v1 w1 hown1 hg1 hne1; have B1 : Hid (Below w.heap.size w w1) := own_below2 (w0 := w) (w3 := w1) (by first | exact (own_zero_at rfl (Nat.le_refl _)).drew | exact ((own_zero_at rfl (Nat.le_refl _)).alloc _).drew | exact (own_zero_at (by simp) (by simp)).drew) (by first | exact ((Below.refl _ _).alloc (Nat.le_refl _) _).drew | exact (((Below.refl _ _).alloc (Nat.le_refl _) _).alloc (by simp) _).drew) hg1; have O1 := hid (show w1.ownsRow w.heap.size 33 2 v1 k (massC (L.take k)) from by rw [Nat.zero_add] at hown1; exact hown1); have NE1 := hid hne1; have HG1 := hid hg1; clear hown1 hg1 hne1)
              | (refine step_append_any _ rfl _ _ _ rfl w.heap.size 33 i0 _ 2 32 Tryz.underlying28 hi hz0 hz1 hz2 rfl (by decide) v1 k _ rfl (by first | exact O1.out | exact O1.out.alloc _) NE1.out (some ⟨_, 0, none⟩) 1 1 [.string key, .string p] rfl rfl (mass_at (by first | exact heap_alloc_new _ _ | exact (HG1.out.block (w.heap.size + 1) (by simp <;> omega) (by simp [Value.ownBlock])).trans MZ2.out | exact (HG1.out.block w.heap.size (by simp <;> omega) (by simp [Value.ownBlock])).trans MZ3.out)) (by simp [Value.oneCell']) (by unfold maxLen; omega) (by omega) (by first | exact B1.out.size | exact (B1.out.alloc B1.out.size _).size) ?_; intro v2 w2 hown2 hg2 hne2; have B2 : Hid (Below w.heap.size w w2) := own_below2 (w0 := w) (w3 := w2) (by first | exact O1.out | exact O1.out.alloc _) (by first | exact B1.out | exact B1.out.alloc B1.out.size _) hg2; have O2 := hid hown2; have NE2 := hid hne2; clear hown2 hg2 hne2)
              | (refine step_append_any _ rfl _ _ _ rfl w.heap.size 33 i0 _ 2 32 Tryz.underlying28 hi hz0 hz1 hz2 rfl (by decide) v2 (k + 1) _ rfl O2.out NE2.out (some ⟨g, o + k * 2, none⟩) (n - k) (c - k) (massC (L.drop k)) rfl SL2.out (SRC2.out _ B2.out) (massC_one _) (by unfold maxLen; omega) (by omega) (by exact B2.out.size) ?_; intro v3 w3 hown3 hg3 hne3; have O3 := hid hown3; have B3 : Hid (Below w.heap.size w w3) := own_below2 (w0 := w) (w3 := w3) O2.out B2.out hg3; clear hown3 hg3 hne3))
          all_goals
            have OF := O3.out
            rw [← massC_append_one, ← massC_append] at OF
            go_wp2_with fail
            all_goals
              go_ret
              refine ⟨⟨_, rfl, ?_⟩, B3.out⟩
              rw [TK.out.1, TK.out.2]
              have := MRow.of_owns OF
              rwa [List.append_assoc] at this

        · go_wp2_with fail
          go_round
          case rel =>
            refine ⟨k + 1, by go_num, by omega, fun j y hj hy => ?_⟩
            rcases Nat.lt_or_ge j k with h | h
            · exact hI.out j y h hy
            · obtain rfl : j = k := by omega
              have := HX.out; rw [hy] at this; cases this; exact HLB.out
          case measure => simp [intOf] <;> omega
      · obtain rfl : k = n := by omega
        have SRC1 : Hid (∀ W, Below w.heap.size w W → ∀ j u, (massC (L.take k))[j]? = some u → ∃ ad, a = some ad ∧ W.cell? (ad.add j) = some u) := fun W hW j u hu => by
          obtain ⟨x0, hx0⟩ : ∃ x0, L[0]? = some x0 := by
            cases hL : L with
            | nil => rw [hL] at hu; simp [massC] at hu
            | cons x r => exact ⟨x, rfl⟩
          obtain ⟨g, o, rfl, hg, -, -⟩ := H3.out 0 x0 hx0
          refine ⟨_, rfl, ?_⟩
          rw [Addr.add_lit]
          refine massC_cells (fun i y hy => ?_) j u hu
          rw [List.getElem?_take] at hy
          split at hy
          · obtain ⟨g', o', e, k0, k1, k2⟩ := H3.out i y hy
            simp only [Option.some.injEq, Addr.mk.injEq] at e
            obtain ⟨rfl, rfl, -⟩ := e
            exact ⟨(hW.cell (p := ⟨g, _, none⟩) hg).trans k1, (hW.cell (p := ⟨g, _, none⟩) hg).trans k2⟩
          · cases hy
        have DN : Hid (L.drop k = []) := List.drop_eq_nil_of_le (by rw [HN.out]; exact Nat.le_refl _)
        have SRC2 : Hid (∀ (ao : Option Addr) W, Below w.heap.size w W → ∀ j u, (massC (L.drop k))[j]? = some u → ∃ ad, ao = some ad ∧ W.cell? (ad.add j) = some u) := fun ao W hW j u hu => by
          rw [DN.out] at hu; simp [massC] at hu
        have SL1 : Hid ((massC (L.take k)).length = k * 2) := by show _ = _; rw [massC_length, List.length_take_of_le (by rw [HN.out]; exact Nat.le_refl _)]
        have SL2 : Hid ((massC (L.drop k)).length = 0 * 2) := by show _ = _; rw [DN.out]; rfl
        have MZ2 : Hid (((w.alloc (.cells #[] 33)).alloc (.cells #[.string key, .string p] 33)).drew.heap[w.heap.size + 1]? = some (.cells #[.string key, .string p] 33 (0, 0))) := by
          have := heap_alloc_new (w.alloc (.cells #[] 33)) (.cells #[.string key, .string p] 33)
          rw [show (w.alloc (.cells #[] 33)).heap.size = w.heap.size + 1 from by simp] at this
          exact this
        have MZ3 : Hid (((w.alloc (.cells #[.string key, .string p] 33)).alloc (.cells #[] 33)).drew.heap[w.heap.size]? = some (.cells #[.string key, .string p] 33 (0, 0))) := (heap_alloc_old (w.alloc (.cells #[.string key, .string p] 33)) (.cells #[] 33) (by simp)).trans (heap_alloc_new w (.cells #[.string key, .string p] 33))
        have d1 : (k : Int) ≤ (c : Int) := by omega
        have d2 : (k : Int) ≤ (k : Int) := by omega
        have TK := hid (take_cut (L := L) (f := fun x => ltB x.1 key) (k := k) hI.out (fun y hy => by rw [List.getElem?_eq_none (by rw [HN.out]; exact Nat.le_refl _)] at hy; cases hy))
        cases a
        · go_wp2_with fail
          go_region_held3 (fun _ => True) (first | trivial)
            (first
              | (refine step_append_any _ rfl _ _ _ rfl w.heap.size 33 i0 _ 2 32 Tryz.underlying28 hi hz0 hz1 hz2 rfl (by decide) (.slice (some ⟨_, 0, none⟩) 0 0) 0 [] rfl (by first | exact (own_zero_at rfl (Nat.le_refl _)).drew | exact ((own_zero_at rfl (Nat.le_refl _)).alloc _).drew | exact (own_zero_at (by simp) (by simp)).drew) (by intro e; cases e) _ k c (massC (L.take k)) rfl SL1.out (SRC1.out _ (by first | exact ((Below.refl _ _).alloc (Nat.le_refl _) _).drew | exact (((Below.refl _ _).alloc (Nat.le_refl _) _).alloc (by simp) _).drew)) (massC_one _) (by unfold maxLen; omega) (by omega) (by simp <;> omega) ?_; intro v1 w1 hown1 hg1 hne1; have B1 : Hid (Below w.heap.size w w1) := own_below2 (w0 := w) (w3 := w1) (by first | exact (own_zero_at rfl (Nat.le_refl _)).drew | exact ((own_zero_at rfl (Nat.le_refl _)).alloc _).drew | exact (own_zero_at (by simp) (by simp)).drew) (by first | exact ((Below.refl _ _).alloc (Nat.le_refl _) _).drew | exact (((Below.refl _ _).alloc (Nat.le_refl _) _).alloc (by simp) _).drew) hg1; have O1 := hid (show w1.ownsRow w.heap.size 33 2 v1 k (massC (L.take k)) from by rw [Nat.zero_add] at hown1; exact hown1); have NE1 := hid hne1; have HG1 := hid hg1; clear hown1 hg1 hne1)
              | (refine step_append_any _ rfl _ _ _ rfl w.heap.size 33 i0 _ 2 32 Tryz.underlying28 hi hz0 hz1 hz2 rfl (by decide) v1 k _ rfl (by first | exact O1.out | exact O1.out.alloc _) NE1.out (some ⟨_, 0, none⟩) 1 1 [.string key, .string p] rfl rfl (mass_at (by first | exact heap_alloc_new _ _ | exact (HG1.out.block (w.heap.size + 1) (by simp <;> omega) (by simp [Value.ownBlock])).trans MZ2.out | exact (HG1.out.block w.heap.size (by simp <;> omega) (by simp [Value.ownBlock])).trans MZ3.out)) (by simp [Value.oneCell']) (by unfold maxLen; omega) (by omega) (by first | exact B1.out.size | exact (B1.out.alloc B1.out.size _).size) ?_; intro v2 w2 hown2 hg2 hne2; have B2 : Hid (Below w.heap.size w w2) := own_below2 (w0 := w) (w3 := w2) (by first | exact O1.out | exact O1.out.alloc _) (by first | exact B1.out | exact B1.out.alloc B1.out.size _) hg2; have O2 := hid hown2; have NE2 := hid hne2; clear hown2 hg2 hne2)
              | (refine step_append_any _ rfl _ _ _ rfl w.heap.size 33 i0 _ 2 32 Tryz.underlying28 hi hz0 hz1 hz2 rfl (by decide) v2 (k + 1) _ rfl O2.out NE2.out _ 0 _ (massC (L.drop k)) rfl SL2.out (SRC2.out _ _ B2.out) (massC_one _) (by unfold maxLen; omega) (by omega) (by exact B2.out.size) ?_; intro v3 w3 hown3 hg3 hne3; have O3 := hid hown3; have B3 : Hid (Below w.heap.size w w3) := own_below2 (w0 := w) (w3 := w3) O2.out B2.out hg3; clear hown3 hg3 hne3))
          all_goals
            have OF := O3.out
            rw [← massC_append_one, ← massC_append] at OF
            go_wp2_with fail
            all_goals
              go_ret
              refine ⟨⟨_, rfl, ?_⟩, B3.out⟩
              rw [TK.out.1, TK.out.2]
              have := MRow.of_owns OF
              rwa [List.append_assoc] at this

        · go_wp2_with fail
          go_region_held3 (fun _ => True) (first | trivial)
            (first
              | (refine step_append_any _ rfl _ _ _ rfl w.heap.size 33 i0 _ 2 32 Tryz.underlying28 hi hz0 hz1 hz2 rfl (by decide) (.slice (some ⟨_, 0, none⟩) 0 0) 0 [] rfl (by first | exact (own_zero_at rfl (Nat.le_refl _)).drew | exact ((own_zero_at rfl (Nat.le_refl _)).alloc _).drew | exact (own_zero_at (by simp) (by simp)).drew) (by intro e; cases e) _ k c (massC (L.take k)) rfl SL1.out (SRC1.out _ (by first | exact ((Below.refl _ _).alloc (Nat.le_refl _) _).drew | exact (((Below.refl _ _).alloc (Nat.le_refl _) _).alloc (by simp) _).drew)) (massC_one _) (by unfold maxLen; omega) (by omega) (by simp <;> omega) ?_; intro v1 w1 hown1 hg1 hne1; have B1 : Hid (Below w.heap.size w w1) := own_below2 (w0 := w) (w3 := w1) (by first | exact (own_zero_at rfl (Nat.le_refl _)).drew | exact ((own_zero_at rfl (Nat.le_refl _)).alloc _).drew | exact (own_zero_at (by simp) (by simp)).drew) (by first | exact ((Below.refl _ _).alloc (Nat.le_refl _) _).drew | exact (((Below.refl _ _).alloc (Nat.le_refl _) _).alloc (by simp) _).drew) hg1; have O1 := hid (show w1.ownsRow w.heap.size 33 2 v1 k (massC (L.take k)) from by rw [Nat.zero_add] at hown1; exact hown1); have NE1 := hid hne1; have HG1 := hid hg1; clear hown1 hg1 hne1)
              | (refine step_append_any _ rfl _ _ _ rfl w.heap.size 33 i0 _ 2 32 Tryz.underlying28 hi hz0 hz1 hz2 rfl (by decide) v1 k _ rfl (by first | exact O1.out | exact O1.out.alloc _) NE1.out (some ⟨_, 0, none⟩) 1 1 [.string key, .string p] rfl rfl (mass_at (by first | exact heap_alloc_new _ _ | exact (HG1.out.block (w.heap.size + 1) (by simp <;> omega) (by simp [Value.ownBlock])).trans MZ2.out | exact (HG1.out.block w.heap.size (by simp <;> omega) (by simp [Value.ownBlock])).trans MZ3.out)) (by simp [Value.oneCell']) (by unfold maxLen; omega) (by omega) (by first | exact B1.out.size | exact (B1.out.alloc B1.out.size _).size) ?_; intro v2 w2 hown2 hg2 hne2; have B2 : Hid (Below w.heap.size w w2) := own_below2 (w0 := w) (w3 := w2) (by first | exact O1.out | exact O1.out.alloc _) (by first | exact B1.out | exact B1.out.alloc B1.out.size _) hg2; have O2 := hid hown2; have NE2 := hid hne2; clear hown2 hg2 hne2)
              | (refine step_append_any _ rfl _ _ _ rfl w.heap.size 33 i0 _ 2 32 Tryz.underlying28 hi hz0 hz1 hz2 rfl (by decide) v2 (k + 1) _ rfl O2.out NE2.out _ 0 _ (massC (L.drop k)) rfl SL2.out (SRC2.out _ _ B2.out) (massC_one _) (by unfold maxLen; omega) (by omega) (by exact B2.out.size) ?_; intro v3 w3 hown3 hg3 hne3; have O3 := hid hown3; have B3 : Hid (Below w.heap.size w w3) := own_below2 (w0 := w) (w3 := w3) O2.out B2.out hg3; clear hown3 hg3 hne3))
          all_goals
            have OF := O3.out
            rw [← massC_append_one, ← massC_append] at OF
            go_wp2_with fail
            all_goals
              go_ret
              refine ⟨⟨_, rfl, ?_⟩, B3.out⟩
              rw [TK.out.1, TK.out.2]
              have := MRow.of_owns OF
              rwa [List.append_assoc] at this
end Go.Proofs.YtccalhlhdiapiaaGreatDoor
namespace Go.Proofs.YtccalhlhdiapiaaGreatDoor
open Go.RowKit Go.Shelf
open Go.Lib (decDigits nDigits)
set_option linter.unusedVariables false
theorem ltB_iff {x z : ByteArray} : ltB x z = true ↔ ¬ z.data.toList ≤ x.data.toList := by
  unfold ltB
  rw [bytesLess_eq, Lib.toList_data, Lib.toList_data, decide_eq_true_eq]
  exact List.not_le.symm
theorem drop_while_ge {key : ByteArray} : ∀ {L : List (ByteArray × ByteArray)}, L.Pairwise (fun p q => leB (keyL p) (keyL q) = true) → ∀ x ∈ L.dropWhile (fun x => ltB x.1 key), leB key.data.toList (keyL x) = true := by
  intro L
  induction L with
  | nil => intro _ x hx; simp at hx
  | cons a r ih =>
    intro h x hx
    obtain ⟨h1, h2⟩ := List.pairwise_cons.1 h
    by_cases ha : ltB a.1 key = true
    · rw [List.dropWhile_cons, if_pos ha] at hx
      exact ih h2 x hx
    · rw [List.dropWhile_cons, if_neg ha] at hx
      have hle : leB key.data.toList (keyL a) = true := by
        have := mt ltB_iff.2 ha
        unfold leB
        rw [decide_eq_true_eq]
        exact Decidable.not_not.1 this
      rcases List.mem_cons.1 hx with rfl | hx
      · exact hle
      · exact leB_trans _ _ _ hle (h1 x hx)
theorem mem_tw {α : Type} {f : α → Bool} {x : α} : ∀ {L : List α}, x ∈ L.takeWhile f → f x = true := by
  intro L
  induction L with
  | nil => intro h; simp at h
  | cons a r ih =>
    intro h
    by_cases ha : f a = true
    · rw [List.takeWhile_cons, if_pos ha] at h
      rcases List.mem_cons.1 h with rfl | h
      · exact ha
      · exact ih h
    · rw [List.takeWhile_cons, if_neg ha] at h; simp at h
theorem pw_inj {L : List (ByteArray × ByteArray)} : L.Pairwise (fun x y => x.1 ≠ y.1) → ∀ x ∈ L, ∀ y ∈ L, x.1 = y.1 → x = y := by
  induction L with
  | nil => intro _ x hx; simp at hx
  | cons a r ih =>
    intro h x hx y hy e
    obtain ⟨h1, h2⟩ := List.pairwise_cons.1 h
    rcases List.mem_cons.1 hx with e1 | hx' <;> rcases List.mem_cons.1 hy with e2 | hy'
    · rw [e1, e2]
    · rw [e1] at e; exact absurd e (h1 y hy')
    · rw [e2] at e; exact absurd e.symm (h1 x hx')
    · exact ih h2 x hx' y hy' e
theorem take_while_lt {key : ByteArray} {L : List (ByteArray × ByteArray)} : ∀ x ∈ L.takeWhile (fun x => ltB x.1 key), leB (keyL x) key.data.toList = true := fun x hx => by
  have h := mem_tw hx
  have := ltB_iff.1 h
  unfold leB
  rw [decide_eq_true_eq]
  rcases List.le_total (keyL x) key.data.toList with h' | h'
  · exact h'
  · exact absurd h' this
theorem addL_sort {L : List (ByteArray × ByteArray)} {key p : ByteArray} (hp : p ≠ ⟨#[48]⟩) (hk : ∀ x ∈ L, x.1 ≠ key) (hn : L.Pairwise (fun x y => x.1 ≠ y.1)) : addL (sortM L) key p = sortM (L ++ [(key, p)]) := by
  rw [addL, if_neg hp]
  have hs := sortM_sorted L
  have hperm : ((sortM L).takeWhile (fun x => ltB x.1 key) ++ (key, p) :: (sortM L).dropWhile (fun x => ltB x.1 key)).Perm (sortM (L ++ [(key, p)])) := by
    refine List.Perm.trans List.perm_middle ?_
    rw [List.takeWhile_append_dropWhile]
    refine List.Perm.trans ?_ (List.mergeSort_perm _ _).symm
    exact (List.Perm.cons _ (List.mergeSort_perm _ _)).trans (List.perm_append_singleton _ _).symm
  have hinj : ∀ x ∈ L ++ [(key, p)], ∀ y ∈ L ++ [(key, p)], x.1 = y.1 → x = y := by
    have hpw : (L ++ [(key, p)]).Pairwise (fun x y => x.1 ≠ y.1) := by
      rw [List.pairwise_append]
      exact ⟨hn, by simp, fun a ha b hb => by simp at hb; subst hb; exact hk a ha⟩
    exact pw_inj hpw
  refine List.Perm.eq_of_pairwise (le := fun p q => leB (keyL p) (keyL q) = true) ?_ ?_ (sortM_sorted _) hperm
  · intro a b ha hb h1 h2
    have ha' : a ∈ L ++ [(key, p)] := sortM_mem.1 (hperm.mem_iff.1 ha)
    have hb' : b ∈ L ++ [(key, p)] := sortM_mem.1 hb
    refine hinj a ha' b hb' ?_
    simp only [leB, decide_eq_true_eq] at h1 h2
    exact ba_ext (List.le_antisymm h1 h2)
  · rw [List.pairwise_append]
    refine ⟨hs.sublist (List.takeWhile_sublist _), ?_, fun a ha b hb => ?_⟩
    · rw [List.pairwise_cons]
      exact ⟨fun x hx => drop_while_ge hs x hx, hs.sublist (List.dropWhile_sublist _)⟩
    · have h1 := take_while_lt a ha
      rcases List.mem_cons.1 hb with rfl | hb
      · exact h1
      · exact leB_trans _ _ _ h1 (drop_while_ge hs b hb)
end Go.Proofs.YtccalhlhdiapiaaGreatDoor
namespace Go.Proofs.YtccalhlhdiapiaaGreatDoor
open Go.RowKit Go.Shelf
open Go.Lib (decDigits nDigits)
set_option linter.unusedVariables false
theorem shB_ne {a b : Nat} (hb : b ≠ 0) (h1 : nDigits a ≤ 4000) (h2 : nDigits b ≤ 4000) (ha : a ≠ 0) : shB a b ≠ ⟨#[48]⟩ := fun e => by
  rw [← shB_zero b, shB_tx hb h1 h2, shB_tx hb (by rw [nDigits_zero]; omega) h2] at e
  have e' := congrArg vQ e
  rw [vQ_txQ, vQ_txQ] at e'
  have h3 := (Rat.mkRat_eq_iff hb hb).1 e'
  have h4 : ((a * b : Nat) : Int) = 0 := by rw [Int.natCast_mul, h3]; simp
  have hp : 0 < a * b := Nat.mul_pos (by omega) (by omega)
  omega
theorem two_dig {x : Nat} (h : x ≤ 2 ^ 256) : nDigits x ≤ 4000 := Nat.le_trans (nDigits_le (k := 78) (by omega) (Nat.lt_of_le_of_lt h (by decide))) (by omega)
end Go.Proofs.YtccalhlhdiapiaaGreatDoor
namespace Go.Proofs.YtccalhlhdiapiaaGreatDoor
open Go.RowKit
open Go.Lib (decDigits nDigits)
set_option linter.unusedVariables false
set_option linter.unusedSectionVars false
set_option linter.unusedSimpArgs false
theorem s1_null {D : Nat} (hD : 0 < D) (l : List UInt8) : s1 0 D l 0 0 = some (0, 0) := by
  have ht : toss 0 D 0 1 l = (true, 0, 0) := by
    rw [toss.eq_def]
    simp [sdB, sdV]
  rw [s1_coin hD, ht]
  rfl
theorem valT_null {D : Nat} (hD : 0 < D) (two : Bool) (l : List UInt8) : valT 0 D two l = some 0 := by
  unfold valT
  rw [s1_null hD]
  simp only
  rw [s1_null hD]
  cases two <;> rfl
theorem gL_null {D : Nat} (hD : 0 < D) (two : Bool) (n : Nat) : gL 0 D two n = 0 := by
  unfold gL
  rw [cw_congr (Q := fun _ => false) (fun l _ => by rw [valT_null hD]; rfl)]
  exact cw_false n
theorem gV_null {D : Nat} (hD : 0 < D) (two : Bool) (n : Nat) (v : Int) : gV 0 D two n v = if v = 0 then 2 ^ n else 0 := by
  unfold gV
  by_cases h : v = 0
  · rw [if_pos h, cw_congr (Q := fun _ => true) (fun l _ => by rw [valT_null hD, h]; rfl)]
    exact cw_true n
  · rw [if_neg h, cw_congr (Q := fun _ => false) (fun l _ => by rw [valT_null hD]; simp; exact fun e => h e.symm)]
    exact cw_false n
theorem ratio_q {a : ByteArray} (h : gPE a = 0) : qE a = 0 ∧ iM (cW a) = false := by
  unfold gPE at h
  split at h
  · rename_i he; exact absurd h he
  · rename_i he
    split at h
    · cases h
    · rename_i hm
      refine ⟨by simpa using he, ?_⟩
      cases hi : iM (cW a)
      · rfl
      · exact absurd (.inl hi) hm
theorem ratio_pos {a : ByteArray} (h : gPE a = 0) (h0 : a ≠ ⟨#[48]⟩) : 0 < bN (cW a) := by
  obtain ⟨h1, h2⟩ := ratio_q h
  obtain ⟨v1, v2, -, -, -, v6⟩ := valid h1
  rw [iD_plain h2] at v1 v6
  rcases Nat.eq_zero_or_pos (bN (cW a)) with e | e
  · refine absurd ?_ h0
    rw [e, Nat.gcd_zero_left] at v1
    rw [v6, e, v1, h2]
    apply ba_ext
    rw [txB_list, dec_zero]
    rfl
  · exact e
theorem ratio_null {a : ByteArray} (h : a = ⟨#[48]⟩) : bN (cW a) = 0 ∧ bN (qD a) = 1 := by
  subst h
  have e : (⟨#[48]⟩ : ByteArray) = txB false 0 1 := by
    apply ba_ext
    rw [txB_list, dec_zero]
    rfl
  have h1 := cW_tx false 0 1
  have h2 := cS_tx false 0 1
  rw [← e] at h1 h2
  constructor
  · unfold bN
    rw [h1]
    show dv (decDigits 0) = 0
    rw [dv_dec]
  · unfold qD
    rw [h2]
    rfl
theorem ratio_dig {a : ByteArray} (h : gPE a = 0) {j : Nat} (hj : j ≤ 256) : nDigits (bN (cW a) * 2 ^ j) ≤ 4000 := by
  have h1 := h
  unfold gPE at h1
  split at h1
  · rename_i he; exact absurd h1 he
  · rename_i he
    split at h1
    · cases h1
    · rename_i hm
      split at h1
      · cases h1
      · rename_i hl
        have hp := parts_ok (by simpa using he) (fun e => hm (.inl e)) hl
        have a1 : nDigits (bN (cW a)) ≤ eN := nDigits_le (by unfold eN; omega) hp.2.2.1
        have a2 : nDigits (2 ^ j) ≤ 78 := nDigits_le (by omega) (Nat.lt_of_le_of_lt (Nat.pow_le_pow_right (by omega) hj) (by decide))
        exact Nat.le_trans (nd_mul a1 a2 (by omega)) (by unfold eN; omega)
def glI (c : Int → Nat) (t n i : Nat) : List (ByteArray × ByteArray) := (List.range i).filterMap fun (j : Nat) => if c ((j : Int) - n) = 0 then none else some (zB ((j : Int) - n), shB (c ((j : Int) - n)) t)
theorem glI_all (c : Int → Nat) (t n : Nat) : glI c t n (2 * n + 1) = glM c t n := rfl
theorem glI_mem {c : Int → Nat} {t n i : Nat} {p : ByteArray × ByteArray} (h : p ∈ glI c t n i) : ∃ j : Nat, j < i ∧ p.1 = zB ((j : Int) - n) := by
  unfold glI at h
  rw [List.mem_filterMap] at h
  obtain ⟨j, hj, h⟩ := h
  rw [List.mem_range] at hj
  split at h
  · cases h
  · simp only [Option.some.injEq] at h
    exact ⟨j, hj, by rw [← h]⟩
theorem glI_succ (c : Int → Nat) (t n i : Nat) : glI c t n (i + 1) = glI c t n i ++ if c ((i : Int) - n) = 0 then [] else [(zB ((i : Int) - n), shB (c ((i : Int) - n)) t)] := by
  unfold glI
  rw [List.range_succ, List.filterMap_append]
  congr 1
  by_cases h : c ((i : Int) - n) = 0
  · simp [h]
  · simp [h]
theorem glI_pw (c : Int → Nat) (t n : Nat) : ∀ i, (glI c t n i).Pairwise (fun x y => x.1 ≠ y.1)
  | 0 => List.Pairwise.nil
  | i + 1 => by
    rw [glI_succ, List.pairwise_append]
    refine ⟨glI_pw c t n i, by split <;> simp, fun x hx y hy e => ?_⟩
    obtain ⟨j, hj, e1⟩ := glI_mem hx
    split at hy
    · cases hy
    · simp only [List.mem_singleton] at hy
      rw [hy, e1] at e
      have := zB_inj e
      omega
theorem glI_len (c : Int → Nat) (t n i : Nat) : (glI c t n i).length ≤ i := by
  unfold glI
  refine Nat.le_trans (List.length_filterMap_le _ _) ?_
  simp
theorem glI_add {c : Int → Nat} {t n i : Nat} (ht : t ≠ 0) (h1 : nDigits (c ((i : Int) - n)) ≤ 4000) (h2 : nDigits t ≤ 4000) : addL (sortM (glI c t n i)) (zB ((i : Int) - n)) (shB (c ((i : Int) - n)) t) = sortM (glI c t n (i + 1)) := by
  by_cases h0 : c ((i : Int) - n) = 0
  · rw [glI_succ, if_pos h0, h0, shB_zero, addL, if_pos rfl, List.append_nil]
  · rw [glI_succ, if_neg h0]
    refine addL_sort (shB_ne ht h1 h2 h0) ?_ (glI_pw c t n i)
    intro x hx e
    obtain ⟨j, hj, e1⟩ := glI_mem hx
    rw [e1] at e
    have := zB_inj e
    omega
theorem glI_late {c : Int → Nat} {t n r : Nat} (ht : t ≠ 0) (h1 : nDigits r ≤ 4000) (h2 : nDigits t ≤ 4000) : addL (sortM (glI c t n (2 * n + 1))) lateB (shB r t) = sortM (glP c t n r) := by
  unfold glP
  rw [← glI_all]
  by_cases h0 : r = 0
  · rw [if_pos h0, h0, shB_zero, addL, if_pos rfl, List.append_nil]
  · rw [if_neg h0]
    refine addL_sort (shB_ne ht h1 h2 h0) ?_ (glI_pw c t n _)
    intro x hx e
    obtain ⟨j, hj, e1⟩ := glI_mem hx
    rw [e1] at e
    exact zB_late _ (by rw [e])
def lfI (c : Int → Nat) (t n i : Nat) : Nat := t - sumN (fun j => c ((j : Int) - n)) i
theorem lfI_zero (c : Int → Nat) (t n : Nat) : lfI c t n 0 = t := by simp [lfI, sumN]
theorem lfI_succ (c : Int → Nat) (t n i : Nat) : lfI c t n i - c ((i : Int) - n) = lfI c t n (i + 1) := by unfold lfI; rw [sumN]; omega
section
variable {N D : Nat} (h : N < D)
include h
theorem lfI_le {two : Bool} {n i : Nat} (hi : i ≤ 2 * n) : gV N D two n ((i : Int) - n) ≤ lfI (gV N D two n) (2 ^ n) n i := by
  have h1 := gV_sum h two n
  have h2 := sumN_mono (f := fun j => gV N D two n ((j : Int) - n)) (show i + 1 ≤ 2 * n + 1 by omega)
  rw [sumN] at h2
  unfold lfI
  omega
theorem lfI_end (two : Bool) (n : Nat) : lfI (gV N D two n) (2 ^ n) n (2 * n + 1) = gL N D two n := by
  have h1 := gV_sum h two n
  unfold lfI
  omega
def o3 (N D n i j : Nat) : Nat := if n ≤ j ∧ j < n + i then gV N D false n ((j : Int) - n) else 0
omit h in
theorem o3_zero (N D n j : Nat) : o3 N D n 0 j = 0 := by unfold o3; rw [if_neg (by omega)]
theorem o3_succ (n i j : Nat) : o3 N D n (i + 1) j = if j = n + i then cvo (edn N D i) pw2 n else o3 N D n i j := by
  by_cases e : j = n + i
  · rw [if_pos e]
    unfold o3
    rw [if_pos (by omega), ← cw_oneP h, e]
    rw [show (((n + i : Nat) : Int) - n) = (i : Int) by omega, gV_one, if_pos (by omega), Int.toNat_natCast]
  · rw [if_neg e]
    unfold o3
    by_cases h1 : n ≤ j ∧ j < n + i
    · rw [if_pos h1, if_pos (by omega)]
    · rw [if_neg h1, if_neg (by omega)]
theorem o3_end {n j : Nat} (hj : j ≤ 2 * n) : o3 N D n (n + 1) j = gV N D false n ((j : Int) - n) := by
  unfold o3
  by_cases h1 : n ≤ j ∧ j < n + (n + 1)
  · rw [if_pos h1]
  · rw [if_neg h1]
    unfold gV
    rw [cw_congr (Q := fun _ => false) (fun l _ => ?_), cw_false]
    rw [decide_eq_false_iff_not]
    unfold valT
    cases s1 N D l 0 0 with
    | none => simp
    | some xp => simp; omega
theorem gL_dig (two : Bool) {n : Nat} (hn : n ≤ 256) : nDigits (gL N D two n) ≤ 4000 := two_dig (Nat.le_trans (gL_le h two n) (Nat.pow_le_pow_right (by omega) hn))
theorem gV_dig (two : Bool) {n : Nat} (v : Int) (hn : n ≤ 256) : nDigits (gV N D two n v) ≤ 4000 := two_dig (Nat.le_trans (gV_le h two n v) (Nat.pow_le_pow_right (by omega) hn))
end
theorem glP_null {D : Nat} (hD : 0 < D) (two : Bool) (n : Nat) : sortM (glP (gV 0 D two n) (2 ^ n) n (gL 0 D two n)) = [(⟨#[48]⟩, ⟨#[49]⟩)] := by
  have h1 : shB (2 ^ n) (2 ^ n) = ⟨#[49]⟩ := by
    have e1 : shB (2 ^ n) (2 ^ n) = shB 1 1 := by
      have := Rat.mkRat_mul_right (n := 1) (d := 1) (two_pw n)
      rw [Nat.one_mul, Int.one_mul] at this
      unfold shB
      rw [qmk_nat, qmk_nat, this]
      rfl
    rw [e1, shB_tx (by omega) (by rw [nDigits_one]; omega) (by rw [nDigits_one]; omega)]
    have e2 : mkRat ((1 : Nat) : Int) 1 = 1 := by decide
    rw [e2]
    apply ba_ext
    rw [txQ, txB_list, show (1 : Rat).num.natAbs = 1 from rfl, show (1 : Rat).den = 1 from rfl, show decide ((1 : Rat).num < 0) = false from by decide, dec_one]
    rfl
  have z0 : zB 0 = ⟨#[48]⟩ := by rw [show (0 : Int) = ((0 : Nat) : Int) from rfl, zB_nat, numB_zero]
  have h2 : sortM (glP (gV 0 D two n) (2 ^ n) n (gL 0 D two n)) = sortM [(⟨#[48]⟩, ⟨#[49]⟩)] := by
    refine sortM_same (glP_nd _ _ _ _) (by simp) fun p => ?_
    rw [glP_mem, List.mem_singleton]
    constructor
    · rintro (⟨v, -, -, hv, rfl⟩ | ⟨hr, -⟩)
      · by_cases h0 : v = 0
        · rw [gV_null hD, if_pos h0, h0, z0, h1]
        · exact absurd (by rw [gV_null hD, if_neg h0]) hv
      · exact absurd (gL_null hD two n) hr
    · rintro rfl
      refine .inl ⟨0, by omega, by omega, ?_, ?_⟩
      · rw [gV_null hD, if_pos rfl]; exact two_pw n
      · rw [gV_null hD, if_pos rfl, z0, h1]
  rw [h2]
  unfold sortM
  simp
end Go.Proofs.YtccalhlhdiapiaaGreatDoor
