/- Texts that the proof rests on, merged: R2f, R2i, R2h, R1q, R1f, R1g, R1h, R1i, R1j, R2a, R1e, Pn6, Rp13, Fd4, Byd, Fd8, C3, C4, Lasts, Last2. -/
import Derived.Test.YtckihjfkafdncaaGreatDoorKt5
import Derived.Deep.RegionHeld3
import Derived.IntWalk
import Derived.Deep.DeepCutAuto
import Derived.Deep.CutBlock
import Derived.Deep.AppendLies
import Derived.WalkLawsBesides
import Derived.Sort.Walk0
set_option linter.unusedVariables false
set_option linter.unusedSimpArgs false
set_option linter.unusedSectionVars false
set_option maxRecDepth 100000
set_option maxHeartbeats 8000000
namespace Go.Proofs.YtckihjfkafdncaaGreatDoor
open Go.RowKit
theorem r2_integer_minus (w : World) (s : ByteArray) (hs : s.size ≤ 9223372036854775807) (h0 : 0 < s.size) (h1 : s[0] = 45) : Calls Tryz.prog 151 #[.string s] w fun e w' =>
 e = .returned (.tuple #[.bool true, .string (s.extract 1 s.size), .bool (formB (s.extract 1 s.size).data.toList && !decide ((s.extract 1 s.size).data.toList = [48]))]) ∧ w = w' := by
 have q0 : decide ((0 : Int) < (s.size : Int)) = true := by simp; omega
 have q1 : ((s[0].toNat : Int) == 45) = true := by rw [h1]; rfl
 have H0 := hid h1
 clear h1
 have hts : (s.extract 1 s.size).size ≤ 9223372036854775807 := by simp; omega
 obtain ⟨t, ht⟩ : ∃ t, s.extract 1 s.size = t := ⟨_, rfl⟩
 rw [ht] at hts ⊢
 have HT := hid ht
 obtain ⟨f, hf⟩ : ∃ f, formB t.data.toList = f := ⟨_, rfl⟩
 rw [hf]
 have HF := hid hf
 clear ht hf
 go_enter Tryz.func151, Tryz.ntmps151
 go_wp2_with fail
 rw [HT.out]
 refine (r2_digits _ t hts).mono ?_; rintro e w1 ⟨rfl, rfl⟩
 rw [HF.out]
 cases f
 ·go_wp2_with fail
  exact bodyPost_ret (v := .tuple #[.bool true, .string t, .bool false]) (by simp [results, Tryz.results151, go_sem]) rfl ⟨by simp, rfl⟩
 ·go_wp2_with fail
  refine bodyPost_ret (v := .tuple #[.bool true, .string t, .bool (!(t.toList == [48]))]) (by simp [results, Tryz.results151, go_sem]) rfl ⟨?_, rfl⟩
  rw [Go.ByteArray.toList_eq]
  simp
  exact Bool.eq_iff_iff.2 (by simp)
theorem r2_integer_plain (w : World) (s : ByteArray) (hs : s.size ≤ 9223372036854775807) (h1 : ∀ h : 0 < s.size, s[0] ≠ 45) : Calls Tryz.prog 151 #[.string s] w fun e w' =>
 e = .returned (.tuple #[.bool false, .string s, .bool (formB s.data.toList)]) ∧ w = w' := by
 obtain ⟨f, hf⟩ : ∃ f, formB s.data.toList = f := ⟨_, rfl⟩
 rw [hf]
 have HF := hid hf
 clear hf
 by_cases h0 : 0 < s.size
 ·have q0 : decide ((0 : Int) < (s.size : Int)) = true := by simp; omega
  have q1 : ((s[0].toNat : Int) == 45) = false := by
   rw [beq_eq_false_iff_ne]
   intro e
   refine h1 h0 ?_
   have : s[0].toNat = (45 : UInt8).toNat := by simp; omega
   exact UInt8.toNat_inj.1 this
  clear h1
  go_enter Tryz.func151, Tryz.ntmps151
  go_wp2_with fail
  refine (r2_digits _ s hs).mono ?_; rintro e w1 ⟨rfl, rfl⟩
  rw [HF.out]
  cases f
  all_goals
   go_wp2_with fail
   exact bodyPost_ret (v := .tuple #[.bool false, .string s, .bool _]) (by simp [results, Tryz.results151, go_sem]) rfl ⟨rfl, rfl⟩
 ·obtain rfl : s = ⟨#[]⟩ := by
   apply ByteArray.ext
   exact Array.eq_empty_of_size_eq_zero (by have : s.data.size = s.size := rfl; omega)
  clear h1 h0 hs
  go_enter Tryz.func151, Tryz.ntmps151
  go_wp2_with fail
  refine (r2_digits _ ⟨#[]⟩ (Nat.zero_le _)).mono ?_; rintro e w1 ⟨rfl, rfl⟩
  rw [HF.out]
  cases f
  all_goals
   go_wp2_with fail
   exact bodyPost_ret (v := .tuple #[.bool false, .string ⟨#[]⟩, .bool _]) (by simp [results, Tryz.results151, go_sem]) rfl ⟨rfl, rfl⟩
open Go.Lib (decDigits nDigits)
theorem ba_list_iff {a b : ByteArray} : a.data.toList = b.data.toList ↔ a = b := ⟨ba_ext, fun e => by rw [e]⟩
theorem r2_integer (w : World) (s : ByteArray) (hs : s.size ≤ 9223372036854775807) : Calls Tryz.prog 151 #[.string s] w fun e w' =>
 e = .returned (.tuple #[.bool (iM s), .string (iD s), .bool (iB s)]) ∧ w = w' := by
 have hl : s.data.toList.length = s.size := by simp
 by_cases h : ∃ h0 : 0 < s.size, s[0] = 45
 ·obtain ⟨h0, h1⟩ := h
  have hg := byte_get h0
  rw [h1] at hg
  obtain ⟨t, ht⟩ : ∃ t, s.data.toList = 45 :: t := by
   cases hc : s.data.toList with
   | nil => rw [hc] at hg; simp at hg
   | cons b t => rw [hc] at hg; simp at hg; exact ⟨t, by rw [hg]⟩
  have hM : iM s = true := by unfold iM Lib.hasPrefix; rw [ht]; simp [List.isPrefixOf]
  have hD : iD s = s.extract 1 s.size := by
   apply ba_ext
   rw [extract_list, ht]
   unfold iD Lib.trimPrefix
   rw [show Lib.hasPrefix s.data.toList [45] = true from hM, ht]
   have : s.size = t.length + 1 := by rw [← hl, ht]; simp
   simp [this]
  have H := r2_integer_minus w s hs h0 h1
  rw [← hD] at H
  have e : iB s = (formB (iD s).data.toList && !decide ((iD s).data.toList = [48])) := by
   unfold iB fB
   rw [hM, Bool.true_and]
   have : decide (iD s = ⟨#[48]⟩) = decide ((iD s).data.toList = [48]) := decide_eq_decide.2 (by rw [← ba_list_iff])
   rw [this]
  rw [hM, e]
  exact H
 ·have h1 : ∀ h : 0 < s.size, s[0] ≠ 45 := fun h0 e => h ⟨h0, e⟩
  have hM : iM s = false := by
   unfold iM Lib.hasPrefix
   cases hc : s.data.toList with
   | nil => rfl
   | cons b t =>
    have h0 : 0 < s.size := by rw [← hl, hc]; simp
    have hg := byte_get h0
    rw [hc] at hg
    simp at hg
    have h3 : ((45 : UInt8) == b) = false := by rw [beq_eq_false_iff_ne, hg]; exact fun e => h1 h0 e.symm
    simp [List.isPrefixOf, h3]
  have hD : iD s = s := by
   apply ba_ext
   unfold iD Lib.trimPrefix
   rw [show Lib.hasPrefix s.data.toList [45] = false from hM]
   simp
  have H := r2_integer_plain w s hs h1
  have e : iB s = formB s.data.toList := by unfold iB fB; rw [hM, hD]; simp
  rw [hM, hD, e]
  exact H
theorem slash_cut {s : ByteArray} {k : Nat} (h : isSlash s.data.toList k) : k ≤ s.size ∧ cW s = s.extract 0 k ∧ cS s = decide (k < s.size) ∧ (k < s.size → cB s = s.extract (k + 1) s.size) := by
 obtain ⟨h1, h2, h3⟩ := h
 have hl : s.data.toList.length = s.size := by simp
 rcases sl_cases s.data.toList with hn | ⟨A, B, hA, e⟩
 ·have hk : k = s.size := by
   rcases Nat.lt_or_ge k s.data.toList.length with hlt | hge
   ·exact absurd rfl (hn 47 (List.mem_of_getElem? (h3 hlt)))
   ·omega
  have hc := cut_none hn
  subst hk
  refine ⟨Nat.le_refl _, ?_, ?_, fun h => absurd h (Nat.lt_irrefl _)⟩
  ·apply ba_ext; rw [extract_list]; unfold cW; rw [hc, List.drop_zero, Nat.sub_zero, ← hl, List.take_length]
  ·unfold cS; rw [hc]; simp
 ·have hL : s.data.toList.length = A.length + 1 + B.length := by rw [e]; simp; omega
  have hk : k = A.length := by
   rcases Nat.lt_trichotomy k A.length with hlt | heq | hgt
   ·have := h3 (by omega)
    rw [e, List.getElem?_append_left hlt] at this
    exact absurd rfl (hA 47 (List.mem_of_getElem? this))
   ·exact heq
   ·exact absurd rfl (h2 A.length 47 hgt (by rw [e]; simp))
  have hc := cut_at (r := B) hA
  rw [← e] at hc
  subst hk
  refine ⟨by omega, ?_, ?_, fun _ => ?_⟩
  ·apply ba_ext; rw [extract_list, e]; unfold cW; rw [hc]; simp
  ·unfold cS; rw [hc]; simp; omega
  ·apply ba_ext; rw [extract_list]; unfold cB; rw [hc]
   have : s.size - (A.length + 1) = B.length := by omega
   rw [this, e, show A ++ 47 :: B = (A ++ [47]) ++ B by simp, List.drop_left' (by simp), List.take_length]
def WrKey (m : Bool) (B1 B2 T : ByteArray) (x : Int) : Prop :=
 (4000 < B1.size ∧ T = ⟨#[]⟩ ∧ x = 5) ∨ (B1.size ≤ 4000 ∧ 4000 < B2.size ∧ T = ⟨#[]⟩ ∧ x = 5) ∨
 (B1.size ≤ 4000 ∧ B2.size ≤ 4000 ∧ x = 0 ∧ ((m = false ∧ B2 = ⟨#[49]⟩ ∧ T = B1) ∨ (m = true ∧ B2 = ⟨#[49]⟩ ∧ T = ⟨#[45]⟩ ++ B1) ∨ (m = false ∧ ¬ B2 = ⟨#[49]⟩ ∧ T = B1 ++ ⟨#[47]⟩ ++ B2) ∨ (m = true ∧ ¬ B2 = ⟨#[49]⟩ ∧ T = ⟨#[45]⟩ ++ B1 ++ ⟨#[47]⟩ ++ B2)))
theorem r2_Write_walk (w : World) (m : Bool) (N D : Value) (n d : Nat) (B1 B2 T : ByteArray) (x : Int) (hn : IsN .i64 w N n) (hd : IsN .i64 w D d) (hln : (limbs n).length ≤ 1000000) (hld : (limbs d).length ≤ 1000000)
 (e1 : numB n = B1) (e2 : numB d = B2) (key : WrKey m B1 B2 T x) :
 Calls Tryz.prog 53 #[.agg #[.bool m, N, D]] w fun e w' => e = .returned (.tuple #[.string T, .int .i64 x]) ∧ Below w.heap.size w w' := by
 have HN := hid hn; have HD := hid hd; have LN := hid hln; have LD := hid hld; have E1 := hid e1; have E2 := hid e2
 obtain ⟨a1, c1, rfl, _⟩ := hn.openI
 obtain ⟨a2, c2, rfl, _⟩ := hd.openI
 obtain ⟨k1, hk1⟩ : ∃ k, (limbs n).length = k := ⟨_, rfl⟩
 obtain ⟨k2, hk2⟩ : ∃ k, (limbs d).length = k := ⟨_, rfl⟩
 rw [hk1] at HN ⊢
 rw [hk2] at HD ⊢
 clear hn hd hln hld e1 e2 hk1 hk2
 unfold WrKey at key
 rcases key with ⟨h1, rfl, rfl⟩ | ⟨h1, h2, rfl, rfl⟩ | ⟨h1, h2, rfl, ⟨rfl, rfl, rfl⟩ | ⟨rfl, rfl, rfl⟩ | ⟨rfl, h3, rfl⟩ | ⟨rfl, h3, rfl⟩⟩
 ·have q0 : decide ((4000 : Int) < (B1.size : Int)) = true := by simp; omega
  clear h1
  go_enter Tryz.func53, Tryz.ntmps53
  go_wp2_with fail
  obtain ⟨W, hW⟩ : ∃ W, w.alloc (.cells #[.bool m, .slice a1 k1 c1, .slice a2 k2 c2] 87) = W := ⟨_, rfl⟩
  rw [hW]
  have X0 : Below w.heap.size w W := by rw [← hW]; exact (Below.refl _ _).alloc (Nat.le_refl _) _
  have Y0 : Blk W w.heap.size #[.bool m, .slice a1 k1 c1, .slice a2 k2 c2] 87 := by rw [← hW]; exact Blk.new w _ _
  have K : Hid (∀ w', Below W.heap.size W w' → w'.cell? ⟨w.heap.size, 0, none⟩ = some (.bool m) ∧ w'.cell? ⟨w.heap.size, 1, none⟩ = some (.slice a1 k1 c1) ∧ w'.cell? ⟨w.heap.size, 2, none⟩ = some (.slice a2 k2 c2)) :=
   fun w' hb => ⟨(Y0.call hb).cell 0, (Y0.call hb).cell 1, (Y0.call hb).cell 2⟩
  have HX0 := hid X0
  obtain ⟨k0, k1', k2'⟩ := K W (Below.refl _ _)
  have XN := hid (HN.out.call HX0.out); have XD := hid (HD.out.call HX0.out)
  clear Y0 X0 hW
  go_region_held3 (fun w' => w'.cell? ⟨w.heap.size, 0, none⟩ = some (.bool m) ∧ w'.cell? ⟨w.heap.size, 1, none⟩ = some (.slice a1 k1 c1) ∧ w'.cell? ⟨w.heap.size, 2, none⟩ = some (.slice a2 k2 c2))
   (first
    | exact K.out _ (Below.refl _ _).drew
    | exact K.out _ bb2.out
    | exact K.out _ bb1.out)
   (first
    | (go_at_call_of 95 (Value.slice a1 k1 c1); refine (r1_Write _ _ n (XN.out.call (by first | exact bb2.out | exact (Below.refl _ _).drew)) LN.out).mono ?_; rintro e w1 ⟨rfl, hb1⟩; rw [numV_eq, E1.out]; have bb1 := hid (bnext (by first | exact bb2.out | exact (Below.refl _ _).drew) hb1))
    | (go_at_call_of 95 (Value.slice a2 k2 c2); refine (r1_Write _ _ d (XD.out.call (by first | exact bb1.out | exact (Below.refl _ _).drew)) LD.out).mono ?_; rintro e w2 ⟨rfl, hb2⟩; rw [numV_eq, E2.out]; have bb2 := hid (bnext (by first | exact bb1.out | exact (Below.refl _ _).drew) hb2)))
  go_wp2_with fail
  go_ret2
  exact ⟨rfl, bnext HX0.out bb2.out⟩
 ·have q0 : decide ((4000 : Int) < (B1.size : Int)) = false := by simp; omega
  have q1 : decide ((4000 : Int) < (B2.size : Int)) = true := by simp; omega
  clear h1 h2
  go_enter Tryz.func53, Tryz.ntmps53
  go_wp2_with fail
  obtain ⟨W, hW⟩ : ∃ W, w.alloc (.cells #[.bool m, .slice a1 k1 c1, .slice a2 k2 c2] 87) = W := ⟨_, rfl⟩
  rw [hW]
  have X0 : Below w.heap.size w W := by rw [← hW]; exact (Below.refl _ _).alloc (Nat.le_refl _) _
  have Y0 : Blk W w.heap.size #[.bool m, .slice a1 k1 c1, .slice a2 k2 c2] 87 := by rw [← hW]; exact Blk.new w _ _
  have K : Hid (∀ w', Below W.heap.size W w' → w'.cell? ⟨w.heap.size, 0, none⟩ = some (.bool m) ∧ w'.cell? ⟨w.heap.size, 1, none⟩ = some (.slice a1 k1 c1) ∧ w'.cell? ⟨w.heap.size, 2, none⟩ = some (.slice a2 k2 c2)) :=
   fun w' hb => ⟨(Y0.call hb).cell 0, (Y0.call hb).cell 1, (Y0.call hb).cell 2⟩
  have HX0 := hid X0
  obtain ⟨k0, k1', k2'⟩ := K W (Below.refl _ _)
  have XN := hid (HN.out.call HX0.out); have XD := hid (HD.out.call HX0.out)
  clear Y0 X0 hW
  go_region_held3 (fun w' => w'.cell? ⟨w.heap.size, 0, none⟩ = some (.bool m) ∧ w'.cell? ⟨w.heap.size, 1, none⟩ = some (.slice a1 k1 c1) ∧ w'.cell? ⟨w.heap.size, 2, none⟩ = some (.slice a2 k2 c2))
   (first
    | exact K.out _ (Below.refl _ _).drew
    | exact K.out _ bb2.out
    | exact K.out _ bb1.out)
   (first
    | (go_at_call_of 95 (Value.slice a1 k1 c1); refine (r1_Write _ _ n (XN.out.call (by first | exact bb2.out | exact (Below.refl _ _).drew)) LN.out).mono ?_; rintro e w1 ⟨rfl, hb1⟩; rw [numV_eq, E1.out]; have bb1 := hid (bnext (by first | exact bb2.out | exact (Below.refl _ _).drew) hb1))
    | (go_at_call_of 95 (Value.slice a2 k2 c2); refine (r1_Write _ _ d (XD.out.call (by first | exact bb1.out | exact (Below.refl _ _).drew)) LD.out).mono ?_; rintro e w2 ⟨rfl, hb2⟩; rw [numV_eq, E2.out]; have bb2 := hid (bnext (by first | exact bb1.out | exact (Below.refl _ _).drew) hb2)))
  go_wp2_with fail
  go_ret2
  exact ⟨rfl, bnext HX0.out bb2.out⟩
 ·have q0 : decide ((4000 : Int) < (T.size : Int)) = false := by simp; omega
  clear h2
  go_enter Tryz.func53, Tryz.ntmps53
  go_wp2_with fail
  obtain ⟨W, hW⟩ : ∃ W, w.alloc (.cells #[.bool false, .slice a1 k1 c1, .slice a2 k2 c2] 87) = W := ⟨_, rfl⟩
  rw [hW]
  have X0 : Below w.heap.size w W := by rw [← hW]; exact (Below.refl _ _).alloc (Nat.le_refl _) _
  have Y0 : Blk W w.heap.size #[.bool false, .slice a1 k1 c1, .slice a2 k2 c2] 87 := by rw [← hW]; exact Blk.new w _ _
  have K : Hid (∀ w', Below W.heap.size W w' → w'.cell? ⟨w.heap.size, 0, none⟩ = some (.bool false) ∧ w'.cell? ⟨w.heap.size, 1, none⟩ = some (.slice a1 k1 c1) ∧ w'.cell? ⟨w.heap.size, 2, none⟩ = some (.slice a2 k2 c2)) :=
   fun w' hb => ⟨(Y0.call hb).cell 0, (Y0.call hb).cell 1, (Y0.call hb).cell 2⟩
  have HX0 := hid X0
  obtain ⟨k0, k1', k2'⟩ := K W (Below.refl _ _)
  have XN := hid (HN.out.call HX0.out); have XD := hid (HD.out.call HX0.out)
  clear Y0 X0 hW
  go_region_held3 (fun w' => w'.cell? ⟨w.heap.size, 0, none⟩ = some (.bool false) ∧ w'.cell? ⟨w.heap.size, 1, none⟩ = some (.slice a1 k1 c1) ∧ w'.cell? ⟨w.heap.size, 2, none⟩ = some (.slice a2 k2 c2))
   (first
    | exact K.out _ (Below.refl _ _).drew
    | exact K.out _ bb2.out
    | exact K.out _ bb1.out)
   (first
    | (go_at_call_of 95 (Value.slice a1 k1 c1); refine (r1_Write _ _ n (XN.out.call (by first | exact bb2.out | exact (Below.refl _ _).drew)) LN.out).mono ?_; rintro e w1 ⟨rfl, hb1⟩; rw [numV_eq, E1.out]; have bb1 := hid (bnext (by first | exact bb2.out | exact (Below.refl _ _).drew) hb1))
    | (go_at_call_of 95 (Value.slice a2 k2 c2); refine (r1_Write _ _ d (XD.out.call (by first | exact bb1.out | exact (Below.refl _ _).drew)) LD.out).mono ?_; rintro e w2 ⟨rfl, hb2⟩; rw [numV_eq, E2.out]; have bb2 := hid (bnext (by first | exact bb1.out | exact (Below.refl _ _).drew) hb2)))
  go_wp2_with fail
  go_ret2
  exact ⟨rfl, bnext HX0.out bb2.out⟩
 ·have q0 : decide ((4000 : Int) < (B1.size : Int)) = false := by simp; omega
  clear h2
  go_enter Tryz.func53, Tryz.ntmps53
  go_wp2_with fail
  obtain ⟨W, hW⟩ : ∃ W, w.alloc (.cells #[.bool true, .slice a1 k1 c1, .slice a2 k2 c2] 87) = W := ⟨_, rfl⟩
  rw [hW]
  have X0 : Below w.heap.size w W := by rw [← hW]; exact (Below.refl _ _).alloc (Nat.le_refl _) _
  have Y0 : Blk W w.heap.size #[.bool true, .slice a1 k1 c1, .slice a2 k2 c2] 87 := by rw [← hW]; exact Blk.new w _ _
  have K : Hid (∀ w', Below W.heap.size W w' → w'.cell? ⟨w.heap.size, 0, none⟩ = some (.bool true) ∧ w'.cell? ⟨w.heap.size, 1, none⟩ = some (.slice a1 k1 c1) ∧ w'.cell? ⟨w.heap.size, 2, none⟩ = some (.slice a2 k2 c2)) :=
   fun w' hb => ⟨(Y0.call hb).cell 0, (Y0.call hb).cell 1, (Y0.call hb).cell 2⟩
  have HX0 := hid X0
  obtain ⟨k0, k1', k2'⟩ := K W (Below.refl _ _)
  have XN := hid (HN.out.call HX0.out); have XD := hid (HD.out.call HX0.out)
  clear Y0 X0 hW
  go_region_held3 (fun w' => w'.cell? ⟨w.heap.size, 0, none⟩ = some (.bool true) ∧ w'.cell? ⟨w.heap.size, 1, none⟩ = some (.slice a1 k1 c1) ∧ w'.cell? ⟨w.heap.size, 2, none⟩ = some (.slice a2 k2 c2))
   (first
    | exact K.out _ (Below.refl _ _).drew
    | exact K.out _ bb2.out
    | exact K.out _ bb1.out)
   (first
    | (go_at_call_of 95 (Value.slice a1 k1 c1); refine (r1_Write _ _ n (XN.out.call (by first | exact bb2.out | exact (Below.refl _ _).drew)) LN.out).mono ?_; rintro e w1 ⟨rfl, hb1⟩; rw [numV_eq, E1.out]; have bb1 := hid (bnext (by first | exact bb2.out | exact (Below.refl _ _).drew) hb1))
    | (go_at_call_of 95 (Value.slice a2 k2 c2); refine (r1_Write _ _ d (XD.out.call (by first | exact bb1.out | exact (Below.refl _ _).drew)) LD.out).mono ?_; rintro e w2 ⟨rfl, hb2⟩; rw [numV_eq, E2.out]; have bb2 := hid (bnext (by first | exact bb1.out | exact (Below.refl _ _).drew) hb2)))
  go_wp2_with fail
  go_ret2
  exact ⟨rfl, bnext HX0.out bb2.out⟩
 ·have q0 : decide ((4000 : Int) < (B1.size : Int)) = false := by simp; omega
  have q1 : decide ((4000 : Int) < (B2.size : Int)) = false := by simp; omega
  have i3 := ne_lit (l := [49]) h3
  go_enter Tryz.func53, Tryz.ntmps53
  go_wp2_with fail
  obtain ⟨W, hW⟩ : ∃ W, w.alloc (.cells #[.bool false, .slice a1 k1 c1, .slice a2 k2 c2] 87) = W := ⟨_, rfl⟩
  rw [hW]
  have X0 : Below w.heap.size w W := by rw [← hW]; exact (Below.refl _ _).alloc (Nat.le_refl _) _
  have Y0 : Blk W w.heap.size #[.bool false, .slice a1 k1 c1, .slice a2 k2 c2] 87 := by rw [← hW]; exact Blk.new w _ _
  have K : Hid (∀ w', Below W.heap.size W w' → w'.cell? ⟨w.heap.size, 0, none⟩ = some (.bool false) ∧ w'.cell? ⟨w.heap.size, 1, none⟩ = some (.slice a1 k1 c1) ∧ w'.cell? ⟨w.heap.size, 2, none⟩ = some (.slice a2 k2 c2)) :=
   fun w' hb => ⟨(Y0.call hb).cell 0, (Y0.call hb).cell 1, (Y0.call hb).cell 2⟩
  have HX0 := hid X0
  obtain ⟨k0, k1', k2'⟩ := K W (Below.refl _ _)
  have XN := hid (HN.out.call HX0.out); have XD := hid (HD.out.call HX0.out)
  clear Y0 X0 hW
  go_region_held3 (fun w' => w'.cell? ⟨w.heap.size, 0, none⟩ = some (.bool false) ∧ w'.cell? ⟨w.heap.size, 1, none⟩ = some (.slice a1 k1 c1) ∧ w'.cell? ⟨w.heap.size, 2, none⟩ = some (.slice a2 k2 c2))
   (first
    | exact K.out _ (Below.refl _ _).drew
    | exact K.out _ bb2.out
    | exact K.out _ bb1.out)
   (first
    | (go_at_call_of 95 (Value.slice a1 k1 c1); refine (r1_Write _ _ n (XN.out.call (by first | exact bb2.out | exact (Below.refl _ _).drew)) LN.out).mono ?_; rintro e w1 ⟨rfl, hb1⟩; rw [numV_eq, E1.out]; have bb1 := hid (bnext (by first | exact bb2.out | exact (Below.refl _ _).drew) hb1))
    | (go_at_call_of 95 (Value.slice a2 k2 c2); refine (r1_Write _ _ d (XD.out.call (by first | exact bb1.out | exact (Below.refl _ _).drew)) LD.out).mono ?_; rintro e w2 ⟨rfl, hb2⟩; rw [numV_eq, E2.out]; have bb2 := hid (bnext (by first | exact bb1.out | exact (Below.refl _ _).drew) hb2)))
  go_wp2_with fail
  go_ret2
  exact ⟨rfl, bnext HX0.out bb2.out⟩
 ·have q0 : decide ((4000 : Int) < (B1.size : Int)) = false := by simp; omega
  have q1 : decide ((4000 : Int) < (B2.size : Int)) = false := by simp; omega
  have i3 := ne_lit (l := [49]) h3
  go_enter Tryz.func53, Tryz.ntmps53
  go_wp2_with fail
  obtain ⟨W, hW⟩ : ∃ W, w.alloc (.cells #[.bool true, .slice a1 k1 c1, .slice a2 k2 c2] 87) = W := ⟨_, rfl⟩
  rw [hW]
  have X0 : Below w.heap.size w W := by rw [← hW]; exact (Below.refl _ _).alloc (Nat.le_refl _) _
  have Y0 : Blk W w.heap.size #[.bool true, .slice a1 k1 c1, .slice a2 k2 c2] 87 := by rw [← hW]; exact Blk.new w _ _
  have K : Hid (∀ w', Below W.heap.size W w' → w'.cell? ⟨w.heap.size, 0, none⟩ = some (.bool true) ∧ w'.cell? ⟨w.heap.size, 1, none⟩ = some (.slice a1 k1 c1) ∧ w'.cell? ⟨w.heap.size, 2, none⟩ = some (.slice a2 k2 c2)) :=
   fun w' hb => ⟨(Y0.call hb).cell 0, (Y0.call hb).cell 1, (Y0.call hb).cell 2⟩
  have HX0 := hid X0
  obtain ⟨k0, k1', k2'⟩ := K W (Below.refl _ _)
  have XN := hid (HN.out.call HX0.out); have XD := hid (HD.out.call HX0.out)
  clear Y0 X0 hW
  go_region_held3 (fun w' => w'.cell? ⟨w.heap.size, 0, none⟩ = some (.bool true) ∧ w'.cell? ⟨w.heap.size, 1, none⟩ = some (.slice a1 k1 c1) ∧ w'.cell? ⟨w.heap.size, 2, none⟩ = some (.slice a2 k2 c2))
   (first
    | exact K.out _ (Below.refl _ _).drew
    | exact K.out _ bb2.out
    | exact K.out _ bb1.out)
   (first
    | (go_at_call_of 95 (Value.slice a1 k1 c1); refine (r1_Write _ _ n (XN.out.call (by first | exact bb2.out | exact (Below.refl _ _).drew)) LN.out).mono ?_; rintro e w1 ⟨rfl, hb1⟩; rw [numV_eq, E1.out]; have bb1 := hid (bnext (by first | exact bb2.out | exact (Below.refl _ _).drew) hb1))
    | (go_at_call_of 95 (Value.slice a2 k2 c2); refine (r1_Write _ _ d (XD.out.call (by first | exact bb1.out | exact (Below.refl _ _).drew)) LD.out).mono ?_; rintro e w2 ⟨rfl, hb2⟩; rw [numV_eq, E2.out]; have bb2 := hid (bnext (by first | exact bb1.out | exact (Below.refl _ _).drew) hb2)))
  go_wp2_with fail
  go_ret2
  exact ⟨rfl, bnext HX0.out bb2.out⟩
theorem numB_is1 {d : Nat} : numB d = ⟨#[49]⟩ ↔ d = 1 := by
 constructor
 ·intro h
  rw [← numB_one] at h
  rcases Nat.decEq d 1 with h1 | h1
  ·exact absurd h (numB_ne h1)
  ·exact h1
 ·rintro rfl; exact numB_one
theorem r2_Write (w : World) (v : Value) (q : Rat) (h : IsQ .i64 w v q) (h1 : (limbs q.num.natAbs).length ≤ 1000000) (h2 : (limbs q.den).length ≤ 1000000) :
 Calls Tryz.prog 53 #[v] w fun e w' => e = .returned (.tuple #[.string (outB q), .int .i64 (outE q)]) ∧ Below w.heap.size w w' := by
 obtain ⟨N, D, rfl, hn, hd⟩ := h.ex
 refine r2_Write_walk w _ N D q.num.natAbs q.den (numB q.num.natAbs) (numB q.den) (outB q) (outE q) hn hd h1 h2 rfl rfl ?_
 unfold WrKey outB outE
 rw [numB_size, numB_size]
 by_cases o1 : 4000 < nDigits q.num.natAbs
 ·have ho : ovQ q := .inl o1
  rw [if_pos ho, if_pos ho]
  exact .inl ⟨o1, rfl, rfl⟩
 ·by_cases o2 : 4000 < nDigits q.den
  ·have ho : ovQ q := .inr o2
   rw [if_pos ho, if_pos ho]
   exact .inr (.inl ⟨by omega, o2, rfl, rfl⟩)
  ·have ho : ¬ ovQ q := fun h => h.elim o1 o2
   rw [if_neg ho, if_neg ho]
   refine .inr (.inr ⟨by omega, by omega, rfl, ?_⟩)
   unfold txQ
   rw [numB_is1]
   generalize decide (q.num < 0) = m
   by_cases hd1 : q.den = 1
   ·rw [hd1]
    cases m
    ·exact .inl ⟨rfl, rfl, ba_ext (by simp [txB, numB])⟩
    ·exact .inr (.inl ⟨rfl, rfl, ba_ext (by simp [txB, numB])⟩)
   ·cases m
    ·exact .inr (.inr (.inl ⟨rfl, hd1, ba_ext (by simp [txB, numB, hd1])⟩))
    ·exact .inr (.inr (.inr ⟨rfl, hd1, ba_ext (by simp [txB, numB, hd1])⟩))
theorem isN_one (w : World) : IsN .i64 (w.alloc (.cells #[.int .i64 1] 3)) (.slice (some ⟨w.heap.size, 0, none⟩) 1 1) 1 := by
 unfold IsN
 rw [limbs_one]
 exact Row.of_blk (b := w.heap.size) (n := 1) (c := 1) (cs := #[.int .i64 1]) (Blk.new w _ _) rfl (by unfold maxLen; omega) (fun i x hx => by simpa [ints] using hx) (Nat.le_refl _) (by unfold maxLen; omega)
end Go.Proofs.YtckihjfkafdncaaGreatDoor
namespace Go.Proofs.YtckihjfkafdncaaGreatDoor
open Go.RowKit
def Ret2N (k : IntKind) (n m : Nat) (e : Ending) (w' : World) : Prop := ∃ v, e = .returned (.tuple #[v, .int k (m : Int)]) ∧ IsN k w' v n
theorem r1_short (w : World) (v : Value) (a d : Nat) (ha : IsN .i64 w v a) (hd0 : 0 < d) (hd1 : d < 1000000000) (hla : (limbs a).length ≤ 1000000) :
 Calls Tryz.prog 224 #[v, .int .i64 d] w fun e w' => Ret2N .i64 (a / d) (a % d) e w' ∧ Below w.heap.size w w' := by
 obtain ⟨a1, c1, rfl, h1, h2, h3⟩ := ha.openI
 have H3 := hid h3; clear h3 ha
 obtain ⟨n, ea⟩ : ∃ n, (limbs a).length = n := ⟨_, rfl⟩
 rw [ea] at h1 hla ⊢
 have HA := hid ea
 clear ea
 have hmk := fun W => make_limbs n (by omega) W
 have hdz : ((d : Int) == 0) = false := by simp; omega
 go_enter Tryz.func224, Tryz.ntmps224
 go_wp2_with fail
 clear hmk
 go_loopw [7, 8, 9] (fun rr ii nn wr => ∃ (j r : Nat) (t : Int) (o : List Nat), rr = .int .i64 r ∧ ii = .int .i64 t ∧ t = (j : Int) - 1 ∧ j ≤ n ∧ Hid (SmallI a d j r o) ∧ Hid (Arr .i64 3 wr w.heap.size o) ∧ Hid (Below w.heap.size w wr)) (fun _ ii _ _ => (intOf ii + 1).toNat)
 case atStart => exact ⟨n, 0, _, _, rfl, rfl, rfl, Nat.le_refl _, by have := SmallI.start (a := a) hd0; rw [HA.out] at this; exact this, Arr.made w .i64 3 n, (Below.refl _ _).alloc (Nat.le_refl _) _⟩
 case round =>
  obtain ⟨j, r, t, o, rfl, rfl, ht, hj, hS, hO, hB⟩ := hrel
  have hsz : Hid (o.length = n) := by rw [Hid, hS.out.len, HA.out]
  cases j with
  | zero =>
   obtain rfl : t = -1 := by omega
   clear ht
   have hv := hid hS.out.done
   have hr := hid (show Row wr (.slice (some ⟨w.heap.size, 0, none⟩) n n) (ints .i64 o) from by
    have := hO.out.row (n := n) (c := n) (by rw [hsz.out]; exact Nat.le_refl _) (Nat.le_refl _) (by unfold maxLen; omega)
    rwa [List.take_of_length_le (by rw [hsz.out]; exact Nat.le_refl _)] at this)
   go_wp2_with (go_at_call 97; refine (r1_trim _ _ o hS.out.sm hr.out).mono ?_; rintro e w1 ⟨⟨v1, rfl, hv1⟩, rfl⟩)
   go_ret2
   exact ⟨⟨v1, ret_tup (by rw [hv.out.2]), by rw [← hv.out.1]; exact hv1⟩, hB.out⟩
  | succ j =>
   obtain rfl : t = (j : Int) := by omega
   clear ht
   obtain ⟨x, hx⟩ : ∃ x, (limbs a)[j]? = some x := ⟨_, List.getElem?_eq_getElem (by rw [HA.out]; omega)⟩
   obtain ⟨g, og, rfl, hg, hc⟩ := H3.out _ x hx
   have d1 := (hB.out.cell (p := ⟨g, og + j, none⟩) hg).trans hc
   obtain ⟨z, hz⟩ : ∃ z, o[j]? = some z := ⟨_, List.getElem?_eq_getElem (by rw [hsz.out]; omega)⟩
   have d3 := hO.out.cell hz
   have d4 := hO.out.free j
   have HN := hid (hS.out.next hx)
   have hxl := (sm_limbs a).get hx
   have hrl := hS.out.rd
   clear hx hc hz
   go_wp2_with fail
   go_roundw
   case rel =>
    have e1 : (((r : Int) * 1000000000 + x) / d) = (((r * 1000000000 + x) / d : Nat) : Int) := by rw [Int.natCast_ediv]; rfl
    have e2 : (((r : Int) * 1000000000 + x) % d) = (((r * 1000000000 + x) % d : Nat) : Int) := by rw [Int.natCast_emod]; rfl
    rw [e1]
    exact ⟨j, _, _, _, by rw [e2], rfl, by omega, by omega, HN, hO.out.set j _, below_set hB.out (Nat.le_refl _) _⟩
   case measure => simp [intOf] <;> omega
def RetArr (k : IntKind) (t : TypeId) (B n len : Nat) (e : Ending) (w' : World) : Prop := ∃ g o, e = .returned (.slice (some ⟨g, 0, none⟩) len len) ∧ B ≤ g ∧ Arr k t w' g o ∧ o.length = len ∧ Sm o ∧ val o = n
theorem r1_scaled (w : World) (v : Value) (a d : Nat) (ha : IsN .i64 w v a) (hd1 : d < 1000000000) (hla : (limbs a).length ≤ 1000000) :
 Calls Tryz.prog 225 #[v, .int .i64 d] w fun e w' => RetArr .i64 3 w.heap.size (a * d) ((limbs a).length + 1) e w' ∧ Below w.heap.size w w' := by
 obtain ⟨a1, c1, rfl, h1, h2, h3⟩ := ha.openI
 have H3 := hid h3; clear h3 ha
 obtain ⟨n, ea⟩ : ∃ n, (limbs a).length = n := ⟨_, rfl⟩
 rw [ea] at h1 hla ⊢
 have HA := hid ea
 clear ea
 have hmk : ∀ W : World, (Instr.makeSlice 82 (.int .i64 ((n : Int) + 1)) (.int .i64 ((n : Int) + 1))).run Tryz.prog W = .ok (.slice (some ⟨W.heap.size, 0, none⟩) (n + 1) (n + 1)) (W.alloc (.cells (madeCells #[.int .i64 0] (n + 1)) 3)) := fun W => by
  have := make_limbs (n + 1) (by omega) W
  rwa [Int.natCast_add] at this
 go_enter Tryz.func225, Tryz.ntmps225
 go_wp2_with fail
 clear hmk
 go_loopw [6, 7, 8] (fun cc ii nn wr => ∃ (i c : Nat) (o : List Nat), cc = .int .i64 c ∧ ii = .int .i64 i ∧ i ≤ n ∧ Hid (ScaleI a d i c o) ∧ Hid (Arr .i64 3 wr w.heap.size o) ∧ Hid (Below w.heap.size w wr)) (fun _ ii _ _ => n - (intOf ii).toNat)
 case atStart => exact ⟨0, 0, _, rfl, rfl, Nat.zero_le _, ScaleI.start a d, by rw [HA.out]; exact Arr.made w .i64 3 (n + 1), (Below.refl _ _).alloc (Nat.le_refl _) _⟩
 case round =>
  obtain ⟨i, c, o, rfl, rfl, hin, hS, hO, hB⟩ := hrel
  have hsz : Hid (o.length = n + 1) := by rw [Hid, hS.out.len, HA.out]
  by_cases hlt : i < n
  ·obtain ⟨x, hx⟩ : ∃ x, (limbs a)[i]? = some x := ⟨_, List.getElem?_eq_getElem (by rw [HA.out]; exact hlt)⟩
   obtain ⟨g, og, rfl, hg, hc⟩ := H3.out _ x hx
   have d1 := (hB.out.cell (p := ⟨g, og + i, none⟩) hg).trans hc
   obtain ⟨z, hz⟩ : ∃ z, o[i]? = some z := ⟨_, List.getElem?_eq_getElem (by rw [hsz.out]; omega)⟩
   have d3 := hO.out.cell hz
   have d4 := hO.out.free i
   have HN := hid (hS.out.next hd1 hx)
   have hb1 := mul_bound (old := 0) (by omega) ((sm_limbs a).get hx) hd1 hS.out.c1
   have hcl := hS.out.c1
   clear hx hc hz
   have HP := hid (show ((x : Int) * (d : Int)) = ((x * d : Nat) : Int) from (Int.natCast_mul x d).symm)
   obtain ⟨p, hp⟩ : ∃ p, x * d = p := ⟨_, rfl⟩
   rw [hp] at hb1 HN HP
   have hp2 := hb1.2; clear hb1 hp
   have e5 : IntKind.i64.wrap ((x : Int) * (d : Int)) = (p : Int) := by rw [HP.out]; exact IntWalk.i64_in _ (by omega)
   have e5' : wrap64 ((x : Int) * (d : Int)) = (p : Int) := by rw [HP.out]; exact IntWalk.wrap64_in _ (by omega)
   go_wp2_with fail
   clear e5 e5'
   go_roundw
   case rel =>
    have hz : (((p : Int) + c) % 1000000000) = (((p + c) % 1000000000 : Nat) : Int) := by omega
    rw [hz]
    exact ⟨i + 1, (p + c) / 1000000000, _, by go_num, by go_num, by omega, HN, hO.out.set i _, below_set hB.out (Nat.le_refl _) _⟩
   case measure => simp [intOf] <;> omega
  ·obtain rfl : i = n := by omega
   obtain ⟨z, hz⟩ : ∃ z, o[i]? = some z := ⟨_, List.getElem?_eq_getElem (by rw [hsz.out]; omega)⟩
   have d3 := hO.out.cell hz
   have d4 := hO.out.free i
   clear hz
   have hD := hid (show val (o.set i c) = a * d ∧ Sm (o.set i c) ∧ (o.set i c).length = i + 1 from by have := hS.out; rw [← HA.out] at this ⊢; exact this.done)
   go_wp2_with fail
   go_ret
   exact ⟨⟨w.heap.size, _, rfl, Nat.le_refl _, hO.out.set i c, hD.out.2.2, hD.out.2.1, hD.out.1⟩, below_set hB.out (Nat.le_refl _) _⟩
def StepOut (us vs : List Nat) (gu j n : Nat) (w : World) (e : Ending) (w' : World) : Prop :=
 e = .returned (.int .i64 ((val ((us.drop j).take (n + 1)) / val vs : Nat) : Int)) ∧ ∃ o, WinOut us j n (val ((us.drop j).take (n + 1)) % val vs) o ∧ Arr .i64 3 w' gu o ∧ w.grownBy w' (some gu)
theorem r1_step (w : World) (gu j cu : Nat) (us : List Nat) (gv ov cv : Nat) (vs : List Nat) (n : Nat) (hS : StepIn us vs j n) (hU : Arr .i64 3 w gu us) (hV : Row w (.slice (some ⟨gv, ov, none⟩) n cv) (ints .i64 vs)) (hne : gv ≠ gu) :
 Calls Tryz.prog 226 #[.slice (some ⟨gu, j, none⟩) (n + 1) cu, .slice (some ⟨gv, ov, none⟩) n cv] w fun e w' => StepOut us vs gu j n w e w' := by
 have n2 := hS.n2; have nm := hS.nm; have lu := hS.lu; have um := hS.um
 have cv' : ∀ i, i < n → w.cell? ⟨gv, ov + i, none⟩ = some (.int .i64 (vs.getD i 0 : Nat)) := fun i hi => by
  obtain ⟨g, o, e, hg, hc⟩ := hV.at (ints_get (getD_some (l := vs) (i := i) (by rw [hS.lv]; exact hi)))
  simp at e
  obtain ⟨rfl, rfl⟩ := e
  exact hc
 have cu' : ∀ i, i ≤ n → w.cell? ⟨gu, j + i, none⟩ = some (.int .i64 (us.getD (j + i) 0 : Nat)) := fun i hi => hU.cell (getD_some (by omega))
 have hE := hid hS.est
 have a0 := cu' n (Nat.le_refl _)
 have a1 := cu' (n - 1) (by omega)
 have a2 := cu' (n - 2) (by omega)
 have b1 := cv' (n - 1) (by omega)
 have b2 := cv' (n - 2) (by omega)
 have CV := hid cv'; have CU := hid cu'; have HS := hid hS; have HU := hid hU
 clear cv' cu' hS hU hV
 obtain ⟨u0, hu0⟩ : ∃ x, us.getD (j + n) 0 = x := ⟨_, rfl⟩
 obtain ⟨u1, hu1⟩ : ∃ x, us.getD (j + (n - 1)) 0 = x := ⟨_, rfl⟩
 obtain ⟨u2, hu2⟩ : ∃ x, us.getD (j + (n - 2)) 0 = x := ⟨_, rfl⟩
 obtain ⟨v1, hv1⟩ : ∃ x, vs.getD (n - 1) 0 = x := ⟨_, rfl⟩
 obtain ⟨v2, hv2⟩ : ∃ x, vs.getD (n - 2) 0 = x := ⟨_, rfl⟩
 rw [hu0, hu1, hu2, hv1, hv2] at hE
 rw [hu0] at a0; rw [hu1] at a1; rw [hu2] at a2; rw [hv1] at b1; rw [hv2] at b2
 have HU0 := hid hu0; clear hu0 hu1 hu2 hv1 hv2
 have l0 := hE.out.b0; have l1 := hE.out.b1; have l2 := hE.out.b2; have l3 := hE.out.c1; have l4 := hE.out.c2; have l5 := hE.out.v0
 have dz : ((v1 : Int) == 0) = false := by simp; omega
 have f1 : (0 : Int) ≤ (n : Int) - 1 := by omega
 have f2 : (n : Int) - 1 < (n : Int) + 1 := by omega
 have f3 : (n : Int) - 1 < (n : Int) := by omega
 have f4 : (0 : Int) ≤ (n : Int) - 2 := by omega
 have f5 : (n : Int) - 2 < (n : Int) + 1 := by omega
 have f6 : (n : Int) - 2 < (n : Int) := by omega
 have f7 : (0 : Int) ≤ (n : Int) := by omega
 have f8 : (n : Int) < (n : Int) + 1 := by omega
 have e1 : IntKind.i64.wrap ((n : Int) - 1) = (n : Int) - 1 := IntWalk.i64_in _ (by omega)
 have e2 : IntKind.i64.wrap ((n : Int) - 2) = (n : Int) - 2 := IntWalk.i64_in _ (by omega)
 have e3 : ((n : Int) - 1).toNat = n - 1 := by omega
 have e4 : ((n : Int) - 2).toNat = n - 2 := by omega
 have e5 : IntKind.i64.wrap ((u0 : Int) * 1000000000) = (u0 : Int) * 1000000000 := IntWalk.i64_in _ (by omega)
 have e6 : IntKind.i64.wrap ((u0 : Int) * 1000000000 + u1) = (u0 : Int) * 1000000000 + u1 := IntWalk.i64_in _ (by omega)
 go_enter Tryz.func226, Tryz.ntmps226
 go_wp2_with fail
 go_quiet (fail)
 clear e5 e6
 go_wp2_with fail
 go_quiet (fail)
 go_upto_block 0 with (fail)
 rename_i nq1 nq2
 obtain ⟨V, hV⟩ : ∃ V, val vs = V := ⟨_, rfl⟩
 obtain ⟨U, hU⟩ : ∃ U, val ((us.drop j).take (n + 1)) = U := ⟨_, rfl⟩
 rw [hU, hV] at hE
 have HVU := hid (And.intro hU hV); clear hU hV
 go_cut [7] (fun gg wx => ∃ (G q : Nat), gg = .int .i64 G ∧ wx = w.drewN q ∧ G < 1000000000 ∧ Hid (U / V ≤ G ∧ G * V < U + V))
 case first =>
  go_wp2_with fail
  go_loopw [7, 8] (fun gg rr wr => ∃ G R q : Nat, gg = .int .i64 G ∧ rr = .int .i64 R ∧ wr = w.drewN q ∧ Hid (EstI U V u0 u1 v1 G R)) (fun gg _ _ => (intOf gg).toNat)
  case atStart =>
   exact ⟨_, _, _, by rw [Int.natCast_ediv]; rfl, by rw [Int.natCast_emod]; rfl, by rw [World.drewN_drewN], EstI.start hE.out⟩
  case round =>
   obtain ⟨G, R, q, rfl, rfl, rfl, hI⟩ := hrel
   have g2 := hI.out.g2; have r2 := hI.out.r2
   by_cases hR : R < 1000000000
   ·have q1 : decide ((R : Int) < 1000000000) = true := by simp; omega
    by_cases hG : 1000000000 ≤ G
    ·have q2 : decide ((1000000000 : Int) ≤ (G : Int)) = true := by simp; omega
     have HN := hid (hI.out.big hE.out hR hG)
     go_wp2_with fail
     go_big_quiet (fail)
     clear q1 q2
     go_wp2_with fail
     go_quiet (fail)
     go_wp2_with fail
     go_roundw
     case rel => exact ⟨G - 1, R + v1, _, by go_num, by go_num, by rw [World.drewN_drewN, World.drewN_drewN], HN⟩
     case measure => simp [intOf] <;> omega
    ·have q2 : decide ((1000000000 : Int) ≤ (G : Int)) = false := by simp; omega
     obtain ⟨p, hp⟩ : ∃ p, G * v2 = p := ⟨_, rfl⟩
     have hpb : p ≤ 999999999 * 999999999 := by rw [← hp]; exact Nat.mul_le_mul (by omega) (by omega)
     have HPI := hid (show ((G : Int) * (v2 : Int)) = (p : Int) from by rw [← Int.natCast_mul, hp])
     by_cases hT : R * 1000000000 + u2 < p
     ·have q3 : decide ((R : Int) * 1000000000 + u2 < (p : Int)) = true := by simp; omega
      have HN := hid (hI.out.less hE.out hR (by rw [hp]; exact hT))
      have hg0 := HN.out.2
      clear hp hT
      obtain ⟨x5, x6, x7⟩ : IntKind.i64.wrap ((G : Int) * (v2 : Int)) = (p : Int) ∧ IntKind.i64.wrap ((R : Int) * 1000000000) = (R : Int) * 1000000000 ∧ IntKind.i64.wrap ((R : Int) * 1000000000 + u2) = (R : Int) * 1000000000 + u2 := by
       refine ⟨by rw [HPI.out]; exact IntWalk.i64_in _ (by omega), IntWalk.i64_in _ (by omega), IntWalk.i64_in _ (by omega)⟩
      go_wp2_with fail
      go_big_quiet (fail)
      clear q1 q2 q3 x5 x6 x7
      go_wp2_with fail
      go_quiet (fail)
      go_wp2_with fail
      go_roundw
      case rel => exact ⟨G - 1, R + v1, _, by go_num, by go_num, by rw [World.drewN_drewN, World.drewN_drewN], HN.out.1⟩
      case measure => simp [intOf] <;> omega
     ·have q3 : decide ((R : Int) * 1000000000 + u2 < (p : Int)) = false := by simp; omega
      have HD := hid (hI.out.done hE.out (.inr ⟨by omega, by rw [hp]; omega⟩))
      have HQ := hid hI.out.q
      clear hp hT
      obtain ⟨x5, x6, x7⟩ : IntKind.i64.wrap ((G : Int) * (v2 : Int)) = (p : Int) ∧ IntKind.i64.wrap ((R : Int) * 1000000000) = (R : Int) * 1000000000 ∧ IntKind.i64.wrap ((R : Int) * 1000000000 + u2) = (R : Int) * 1000000000 + u2 := by
       refine ⟨by rw [HPI.out]; exact IntWalk.i64_in _ (by omega), IntWalk.i64_in _ (by omega), IntWalk.i64_in _ (by omega)⟩
      go_wp2_with fail
      go_big_quiet (fail)
      clear q1 q2 q3 x5 x6 x7
      go_wp2_with fail
      go_meet
      exact ⟨G, _, rfl, by rw [World.drewN_drewN], HD.out.1, HQ.out, HD.out.2⟩
   ·have q1 : decide ((R : Int) < 1000000000) = false := by simp; omega
    have HD := hid (hI.out.done hE.out (.inl (by omega)))
    have HQ := hid hI.out.q
    go_wp2_with fail
    go_big_quiet (fail)
    clear q1
    go_wp2_with fail
    go_meet
    exact ⟨G, _, rfl, by rw [World.drewN_drewN], HD.out.1, HQ.out, HD.out.2⟩
 case rest =>
  obtain ⟨G, q, rfl, rfl, hG, hQ⟩ := hcut
  have hE1 := hE
  clear a0 a1 a2 b1 b2 dz f1 f2 f3 f4 f5 f6 f7 f8 e1 e2 e3 e4 hE l0 l1 l2 l3 l4 l5
  go_wp2_with fail
  go_loopw [9, 10, 11, 12] (fun bb ii tt xx wr => ∃ (i c : Nat) (o : List Nat), bb = .int .i64 c ∧ ii = .int .i64 i ∧ i ≤ n ∧ Hid (MsubI us vs j n G i c o) ∧ Hid (Arr .i64 3 wr gu o) ∧ Hid (w.grownBy wr (some gu))) (fun _ ii _ _ _ => n - (intOf ii).toNat)
  case atStart => exact ⟨0, 0, us, rfl, rfl, Nat.zero_le _, MsubI.start HS.out.su, HU.out.drewN q, gb_drewN (World.grownBy.refl w _) q⟩
  case round =>
   obtain ⟨i, c, o, rfl, rfl, hin, hM, hO, hB⟩ := hrel
   have hol := hid hM.out.len
   have hcG := hM.out.c1
   by_cases hlt : i < n
   ·have d1 := hO.out.cell (getD_some (l := o) (i := j + i) (by rw [hol.out]; omega))
    have d4 := hO.out.free (j + i)
    have d2 := gb_cell hB.out (CV.out i hlt) hne
    have hvl := HS.out.sv.getD i
    have hul := HS.out.su.getD (j + i)
    rw [getD_drop_eq hM.out.hi] at d1
    obtain ⟨T, M, z, c', hT, hM1, hz, hc', z1, z2, z3, z4, z5, z6, z7, z8⟩ := ref_msub hul hcG hG hvl
    have HN := hid (hM.out.next (by omega) lu z1 z2 z3)
    obtain ⟨ui, hui⟩ : ∃ x, us.getD (j + i) 0 = x := ⟨_, rfl⟩
    obtain ⟨vi, hvi⟩ : ∃ x, vs.getD i 0 = x := ⟨_, rfl⟩
    rw [hui] at d1 hul hT; rw [hvi] at d2 hvl hT
    clear hui hvi z3
    obtain ⟨p, hp⟩ : ∃ p, G * vi = p := ⟨_, rfl⟩
    have hpb : p ≤ 999999999 * 999999999 := by rw [← hp]; exact Nat.mul_le_mul (by omega) (by omega)
    have HPI := hid (show ((G : Int) * (vi : Int)) = (p : Int) from by rw [← Int.natCast_mul, hp])
    rw [hp] at hT
    have HT := hid hT; have HM1 := hid hM1; have HZ := hid hz; have HC := hid hc'
    clear hp hT hM1 hz hc'
    have f1 : (0 : Int) ≤ (i : Int) := by omega
    have f2 : (i : Int) < (n : Int) := by omega
    have f3 : (i : Int) < (n : Int) + 1 := by omega
    obtain ⟨x5, x6, x7⟩ : IntKind.i64.wrap ((G : Int) * (vi : Int)) = (p : Int) ∧ IntKind.i64.wrap ((ui : Int) - c) = (ui : Int) - c ∧ IntKind.i64.wrap ((ui : Int) - c - p) = T := by
     refine ⟨by rw [HPI.out]; exact IntWalk.i64_in _ (by omega), IntWalk.i64_in _ (by omega), by rw [HT.out]; exact IntWalk.i64_in _ (by omega)⟩
    go_wp2_with fail
    go_quiet (fail)
    clear x5 x6 x7
    have y1 := HM1.out; have y2 := HZ.out; have y3 := HC.out
    go_wp2_with fail
    clear y1 y2 y3
    go_roundw
    case rel => exact ⟨i + 1, c', _, by rw [HC.out], by go_num, by omega, HN, (hO.out.drewN _).set (j + i) z, gb_set (gb_drewN hB.out _) _ _⟩
    case measure => simp [intOf] <;> omega
   ·obtain rfl : i = n := by omega
    have hg0 := getD_drop_eq hM.out.hi
    have d1 := hO.out.cell (getD_some (l := o) (i := j + i) (by rw [hol.out]; omega))
    have d4 := hO.out.free (j + i)
    rw [hg0, HU0.out] at d1
    have hV0 := hE1.out.pos
    have l0 := hE1.out.b0
    clear hg0
    by_cases hc : c ≤ u0
    ·obtain ⟨r1, r2, r3⟩ := hM.out.fits lu HS.out.lv HS.out.sv HVU.out.1 HVU.out.2 HU0.out hQ.out.1 hV0 hc
     have R1 := hid r1; have R3 := hid r3
     subst r2
     clear r1 r3 hc
     go_wp2_with fail
     refine wp_loop_rounds 1 ?_
     rw [rounds_succ]
     go_wp2_with fail
     go_ret
     refine ⟨ret_int (by rw [HVU.out.1, HVU.out.2, ← R1.out]), _, by rw [HVU.out.1, HVU.out.2]; exact R3.out, hO.out.set (j + i) 0, gb_set hB.out _ _⟩
    ·obtain ⟨hc1, hadd⟩ := hM.out.lacks lu HS.out.lv HS.out.sv HVU.out.1 HVU.out.2 HU0.out hQ.out.1 hQ.out.2 hV0 (by omega)
     have HADD := hid hadd
     have hsub : ((u0 : Int) - (c : Int)) = -1 := by omega
     have hcb : (c : Int) ≤ 1000000000 := by omega
     have HN := hid (hO.out.setN (j + i) (-1))
     have HG := hid (gb_set hB.out (j + i) (.int .i64 (-1)))
     clear hadd hc hc1
     go_wp2_with fail
     refine wp_loop_rounds 2 ?_
     rw [rounds_succ]
     clear hsub
     obtain ⟨wx, hwx⟩ : ∃ wx, wr.setCell ⟨gu, j + i, none⟩ (.int .i64 (-1)) = wx := ⟨_, rfl⟩
     rw [hwx] at HN HG ⊢
     clear hwx d1 d4
     have k1 := HN.out.self (m := j + i) (by rw [hol.out]; omega)
     go_wp2_with fail
     go_loopw [13, 14, 15] (fun cc ii tt wq => ∃ (y k : Nat) (p : List Nat), cc = .int .i64 k ∧ ii = .int .i64 y ∧ y ≤ i ∧ Hid (AddI o vs j y k p) ∧ Hid (ArrN .i64 3 wq gu p (j + i) (-1)) ∧ Hid (w.grownBy wq (some gu))) (fun _ ii _ _ => i - (intOf ii).toNat)
     case atStart => exact ⟨0, 0, o, rfl, rfl, Nat.zero_le _, AddI.start hM.out.sm, HN, HG⟩
     case round =>
      obtain ⟨y, k, p, rfl, rfl, hyi, hA, hP, hB2⟩ := hrel
      have hpl := hid (show p.length = us.length from by rw [hA.out.len, hol.out])
      by_cases hlt2 : y < i
      ·have d1 := hP.out.cell (i := j + y) (by omega) (getD_some (l := p) (i := j + y) (by rw [hpl.out]; omega))
       have d4 := hP.out.free (j + y)
       have d2 := gb_cell hB2.out (CV.out y hlt2) hne
       rw [getD_drop_eq hA.out.hi] at d1
       have HN2 := hid (hA.out.next hM.out.sm HS.out.sv (by rw [hol.out]; omega))
       have hvl := HS.out.sv.getD y
       have hul := hM.out.sm.getD (j + y)
       have hk1 := hA.out.k1
       obtain ⟨ui, hui⟩ : ∃ x, o.getD (j + y) 0 = x := ⟨_, rfl⟩
       obtain ⟨vi, hvi⟩ : ∃ x, vs.getD y 0 = x := ⟨_, rfl⟩
       rw [hui] at d1 hul; rw [hvi] at d2 hvl; rw [hui, hvi] at HN2
       clear hui hvi
       have f1 : (0 : Int) ≤ (y : Int) := by omega
       have f2 : (y : Int) < (i : Int) := by omega
       have f3 : (y : Int) < (i : Int) + 1 := by omega
       have hkI : (k : Int) ≤ 1 := by omega
       obtain ⟨x5, x6⟩ : IntKind.i64.wrap ((ui : Int) + vi) = (ui : Int) + vi ∧ IntKind.i64.wrap ((ui : Int) + vi + k) = (ui : Int) + vi + k := by
        refine ⟨IntWalk.i64_in _ (by omega), IntWalk.i64_in _ (by omega)⟩
       go_wp2_with fail
       go_quiet (fail)
       clear x5 x6
       go_wp2_with fail
       go_roundw
       case rel =>
        have hz : (((ui : Int) + vi + k) % 1000000000) = (((ui + vi + k) % 1000000000 : Nat) : Int) := by omega
        rw [hz]
        exact ⟨y + 1, _, _, by go_num, by go_num, by omega, HN2, (hP.out.drewN _).set (by omega) _, gb_set (gb_drewN hB2.out _) _ _⟩
       case measure => simp [intOf] <;> omega
      ·obtain rfl : y = i := by omega
       obtain ⟨r0, r1, r2, r3⟩ := HADD.out k p hA.out
       subst r0
       have R1 := hid r1; have R3 := hid r3
       have k1 := hP.out.self (m := j + y) (by rw [hpl.out]; omega)
       have k2 := hP.out.free (j + y)
       clear r1 r3
       go_wp2_with fail
       rw [rounds_succ]
       go_wp2_with fail
       go_ret
       refine ⟨ret_int (by rw [HVU.out.1, HVU.out.2, R1.out]; omega), _, by rw [HVU.out.1, HVU.out.2]; exact R3.out, hP.out.back 0, gb_set hB2.out _ _⟩
theorem divide_less (w : World) (v u : Value) (a b : Nat) (ha : IsN .i64 w v a) (hb : IsN .i64 w u b) (hlt : a < b) :
 Calls Tryz.prog 164 #[v, u] w fun e w' => RetNN .i64 (a / b) (a % b) e w' ∧ Below w.heap.size w w' := by
 have HA := hid ha; have HB := hid hb; have HL := hid (ordN_lt hlt); have HQ := hid (Nat.div_eq_of_lt hlt); have HR := hid (Nat.mod_eq_of_lt hlt)
 obtain ⟨a1, c1, rfl, _⟩ := ha.openI
 obtain ⟨a2, c2, rfl, _⟩ := hb.openI
 clear ha hb hlt
 go_enter Tryz.func164, Tryz.ntmps164
 go_wp2_with fail
 refine (r1_Order _ _ _ a b HA.out HB.out).mono ?_; rintro e w1 ⟨rfl, hb1⟩
 have B1 := hid hb1; clear hb1
 rw [HL.out]
 go_wp2_with fail
 go_ret2
 exact ⟨⟨_, _, rfl, by rw [HQ.out]; exact IsN.zero _ _, by rw [HR.out]; exact HA.out.call B1.out⟩, B1.out⟩
theorem divide_one (w : World) (v u : Value) (a b : Nat) (ha : IsN .i64 w v a) (hb : IsN .i64 w u b) (hle : b ≤ a) (h0 : 0 < b) (h1 : b < 1000000000) (hla : (limbs a).length ≤ 1000000) :
 Calls Tryz.prog 164 #[v, u] w fun e w' => RetNN .i64 (a / b) (a % b) e w' ∧ Below w.heap.size w w' := by
 have HA := hid ha; have HB := hid hb
 have hord : ordN a b = 0 ∨ ordN a b = 1 := by
  unfold ordN; split
  ·omega
  ·split <;> simp
 obtain ⟨a1, c1, rfl, h1', _⟩ := ha.openI
 obtain ⟨a2, c2, rfl, h2', h3', h4'⟩ := hb.openI
 have hl1 : limbs b = [b] := limbs_small h0 h1
 obtain ⟨g, o, rfl, hg, hc⟩ := h4' 0 b (by rw [hl1]; rfl)
 rw [Nat.add_zero] at hc
 have HC := hid hc
 have hlen : (limbs b).length = 1 := by rw [hl1]; rfl
 rw [hlen] at HB h2' ⊢
 clear ha hb hc h4' hl1 hlen
 go_enter Tryz.func164, Tryz.ntmps164
 go_wp2_with fail
 refine (r1_Order _ _ _ a b HA.out HB.out).mono ?_; rintro e w1 ⟨rfl, hb1⟩
 have d1 := (hb1.cell (p := ⟨g, o, none⟩) hg).trans HC.out
 have B1 := hid hb1; clear hb1
 obtain ⟨t, ht⟩ : ∃ t, ordN a b = t := ⟨_, rfl⟩
 rw [ht] at hord ⊢
 have q0 : decide (t < 0) = false := by simp; omega
 clear ht hord
 go_wp2_with fail
 refine (r1_short _ _ a b (HA.out.call B1.out) h0 h1 hla).mono ?_; rintro e w2 ⟨⟨v2, rfl, hv2⟩, hb2⟩
 have B2 := hid hb2; have V2 := hid hv2; clear hb2 hv2
 have hrb : a % b < 1000000000 := Nat.lt_trans (Nat.mod_lt a h0) h1
 go_wp2_with fail
 refine (r1_trim _ _ [a % b] (Sm.cons hrb Sm.nil) ?_).mono ?_
 ·exact Row.of_blk (b := w2.heap.size) (n := 1) (c := 1) (cs := #[.int .i64 ((a % b : Nat) : Int)]) (Blk.new w2 _ _) rfl (by unfold maxLen; omega) (fun i x hx => by simpa [ints] using hx) (Nat.le_refl _) (by unfold maxLen; omega)
 ·rintro e w3 ⟨⟨v3, rfl, hv3⟩, rfl⟩
  have V3 := hid hv3; clear hv3
  go_wp2_with fail
  go_ret2
  have hb3 : Below w2.heap.size w2 (w2.alloc (.cells #[.int .i64 ((a % b : Nat) : Int)] 3)) := (Below.refl _ _).alloc (Nat.le_refl _) _
  refine ⟨⟨_, _, rfl, V2.out.call hb3, ?_⟩, bnext (bnext B1.out B2.out) hb3⟩
  have := V3.out
  rwa [show val [a % b] = a % b by simp [val_cons]] at this
theorem divide_many (w : World) (v u : Value) (a b m : Nat) (ha : IsN .i64 w v a) (hb : IsN .i64 w u b) (hle : b ≤ a) (hn : (limbs b).length = m) (hm2 : 2 ≤ m) (hla : (limbs a).length ≤ 1000000) :
 Calls Tryz.prog 164 #[v, u] w fun e w' => RetNN .i64 (a / b) (a % b) e w' ∧ Below w.heap.size w w' := by
 have HA := hid ha; have HB := hid hb
 have hord : ordN a b = 0 ∨ ordN a b = 1 := by
  unfold ordN; split
  ·omega
  ·split <;> simp
 have hmn := limbs_length_mono hle
 obtain ⟨a1, c1, rfl, h1', _⟩ := ha.openI
 obtain ⟨a2, c2, rfl, h2', h3', h4'⟩ := hb.openI
 obtain ⟨x, hx⟩ : ∃ x, (limbs b)[m - 1]? = some x := ⟨_, List.getElem?_eq_getElem (by omega)⟩
 obtain ⟨g, o, rfl, hg, hc⟩ := h4' (m - 1) x hx
 have HC := hid hc
 have hn1 : (limbs b).length = (m - 1) + 1 := by omega
 obtain ⟨s1, s2, s3⟩ := scale_len hn1 hx
 obtain ⟨t1, t2, _⟩ := top_limb hn1 hx
 obtain ⟨d, hd⟩ : ∃ d, 1000000000 / (x + 1) = d := ⟨_, rfl⟩
 rw [hd] at s1 s2 s3
 have HS := hid (show (limbs (b * d)).length = m by omega)
 have hdI := hid (show ((1000000000 : Int) / ((x : Int) + 1)) = (d : Int) from by rw [← hd]; rfl)
 rw [hn] at h2' hmn ⊢
 obtain ⟨L, hL⟩ : ∃ L, (limbs a).length = L := ⟨_, rfl⟩
 rw [hL] at hmn h1' ⊢
 have hla' : L ≤ 1000000 := by omega
 have HL := hid hL; have HN := hid hn; have HLA := hid hla; have HLE := hid hle
 rw [hL] at HA; rw [hn] at HB
 obtain ⟨K, hK⟩ : ∃ K, K = L + 1 - m := ⟨_, rfl⟩
 have hKI := hid (show ((L : Int) + 1 - (m : Int)) = (K : Int) by omega)
 have hKL : K + m = L + 1 := by omega
 have hmk := hid (fun W => make_limbs K (by omega) W)
 clear ha hb hc h4' hx hd s1 hL hn hla hle hn1 hK
 go_enter Tryz.func164, Tryz.ntmps164
 go_wp2_with fail
 refine (r1_Order _ _ _ a b HA.out HB.out).mono ?_; rintro e w1 ⟨rfl, hb1⟩
 have d1 := (hb1.cell (p := ⟨g, o + (m - 1), none⟩) hg).trans HC.out
 have B1 := hid hb1; clear hb1
 obtain ⟨t, ht⟩ : ∃ t, ordN a b = t := ⟨_, rfl⟩
 rw [ht] at hord ⊢
 have q0 : decide (t < 0) = false := by simp; omega
 clear ht hord
 go_wp2_with fail
 rw [hdI.out]
 refine (r1_scaled _ _ a d (HA.out.call B1.out) s3 HLA.out).mono ?_; rintro e w2 ⟨⟨gu, ou, rfl, hgu, hAu, lu, su, vu⟩, hb2⟩
 have B2 := hid (bnext B1.out hb2); have AU := hid hAu; have LU := hid lu; have SU := hid su; have VU := hid vu
 have hul := hAu.lt
 rw [HL.out] at LU ⊢
 clear hAu lu su vu d1
 go_wp2_with fail
 refine (r1_scaled _ _ b d (HB.out.call B2.out) s3 (by rw [HN.out]; omega)).mono ?_; rintro e w3 ⟨⟨gv, ov, rfl, hgv, hAv, lv, sv, vv⟩, hb3⟩
 have B3 := hid (bnext B2.out hb3); have AU3 := hid (AU.out.call hb3)
 have hne : gv ≠ gu := by omega
 have LV := hid lv; have VV := hid vv; have SV := hid sv
 clear lv vv sv
 go_wp2_with fail
 rw [← LV.out]
 refine (r1_trim_at _ _ _ ov SV.out (by have := hAv.row (n := ov.length) (c := ov.length) (Nat.le_refl _) (Nat.le_refl _) (by rw [LV.out, HN.out]; unfold maxLen; omega); rwa [List.take_of_length_le (Nat.le_refl _)] at this)).mono ?_
 rintro e w4 ⟨⟨m', rfl, hm'⟩, rfl⟩
 rw [VV.out] at hm'
 have hmm : m' = m := by have := hm'.len.1; rw [ints_length, HS.out] at this; exact this
 subst hmm
 have RV := hid hm'
 have hvl := hAv.lt
 clear hAv hm' AU
 have y1 := hKI.out; have y2 := hmk.out
 go_wp2_with fail
 clear y1 y2
 have hV := hid (val_limbs (b * d))
 have D0 := hid (show DivI (a * d) (b * d) m' (L + 1) K ou (List.replicate K 0) from by
  have h1 : 1000000000 ^ (m' - 1) ≤ b := limbs_lt_length.1 (by rw [HN.out]; omega)
  have h2 : b * d ≤ 1000000000 ^ m' := Nat.le_of_lt (limbs_length_le.1 (by rw [HS.out]; exact Nat.le_refl _))
  have h3 : a < 1000000000 ^ L := limbs_length_le.1 (by rw [HL.out]; exact Nat.le_refl _)
  have := DivI.start (U := a * d) (V := b * d) (n := m') h2 SU.out LU.out (by omega) VU.out (scaled_top LU.out VU.out h3 (by omega) (by omega) h1 s2)
  rwa [show L + 1 - m' = K by omega] at this)
 go_loopw [13] (fun jj wr => ∃ (k : Nat) (t : Int) (o Q : List Nat), jj = .int .i64 t ∧ t = (k : Int) - 1 ∧ k ≤ K ∧ Hid (DivI (a * d) (b * d) m' (L + 1) k o Q) ∧ Hid (Arr .i64 3 wr gu o) ∧ Hid (Arr .i64 3 wr w3.heap.size Q) ∧ Hid (Row wr (.slice (some ⟨gv, 0, none⟩) m' ov.length) (ints .i64 (limbs (b * d)))) ∧ Hid (Below w.heap.size w wr)) (fun jj _ => (intOf jj + 1).toNat)
 case atStart =>
  have ha : Below w3.heap.size w3 (w3.alloc (.cells (madeCells #[.int .i64 0] K) 3)) := (Below.refl _ _).alloc (Nat.le_refl _) _
  exact ⟨K, _, ou, _, rfl, rfl, Nat.le_refl _, D0, AU3.out.call ha, Arr.made w3 .i64 3 K, RV.out.call ha, bnext B3.out ha⟩
 case round =>
  obtain ⟨k, t, o2, Q, rfl, ht, hk, hD, hU, hQ, hR, hB⟩ := hrel
  have hol := hid hD.out.lo
  have hql := hid (show Q.length = K from by rw [hD.out.lq]; omega)
  cases k with
  | zero =>
   obtain rfl : t = -1 := by omega
   clear ht
   obtain ⟨r1, r2, r3⟩ := hD.out.done (by omega)
   have hfin := hid (div_end (a := a) (b := b) s2 r1 r2)
   have R3 := hid r3
   have hlen : (limbs (val (o2.take m'))).length ≤ 1000000 := by
    rw [r3]
    have := limbs_length_mono (Nat.le_of_lt r2)
    rw [HS.out] at this
    omega
   clear r1 r2 r3
   go_wp2_with fail
   refine (r1_trim _ _ (o2.take m') (hD.out.so.take _) (hU.out.row (by rw [hol.out]; omega) (by omega) (by unfold maxLen; omega))).mono ?_
   rintro e w5 ⟨⟨v5, rfl, hv5⟩, rfl⟩
   go_wp2_with fail
   refine (r1_short _ v5 _ d hv5 s2 s3 hlen).mono ?_
   rintro e w6 ⟨⟨v6, rfl, hv6⟩, hb6⟩
   have V6 := hid hv6; have B6 := hid hb6; have Q6 := hid (hQ.out.call hb6)
   clear hv5 hv6 hb6
   go_wp2_with fail
   refine (r1_trim _ _ Q hD.out.sq (by have := Q6.out.row (n := K) (c := K) (by rw [hql.out]; exact Nat.le_refl _) (Nat.le_refl _) (by unfold maxLen; omega); rwa [List.take_of_length_le (by rw [hql.out]; exact Nat.le_refl _)] at this)).mono ?_
   rintro e w7 ⟨⟨v7, rfl, hv7⟩, rfl⟩
   go_wp2_with fail
   go_ret2
   refine ⟨⟨v7, v6, rfl, by rw [← hfin.out.1]; exact hv7, ?_⟩, bnext hB.out B6.out⟩
   have := V6.out
   rwa [R3.out, hfin.out.2] at this
  | succ j =>
   obtain rfl : t = (j : Int) := by omega
   clear ht
   have hS := hid (show StepIn o2 (limbs (b * d)) j m' from ⟨hm2, by omega, HS.out, by rw [hol.out]; omega, by rw [hol.out]; omega, hD.out.so, sm_limbs _, limbs_top (n := m' - 1) (by rw [HS.out]; omega), by rw [hV.out]; exact hD.out.win (by omega)⟩)
   obtain ⟨z, hz⟩ : ∃ z, Q[j]? = some z := ⟨_, List.getElem?_eq_getElem (by rw [hql.out]; omega)⟩
   have hgq : w3.heap.size ≠ gu := by omega
   have hgw : w.heap.size ≤ gu := Nat.le_trans B1.out.size hgu
   have hqw : w.heap.size ≤ w3.heap.size := B3.out.size
   go_wp2_with fail
   rw [show j + m' + 1 - j = m' + 1 by omega]
   refine (r1_step _ gu j _ o2 gv 0 _ (limbs (b * d)) m' hS.out hU.out hR.out hne).mono ?_
   rintro e w5 ⟨he, o5, hw5, hA5, hg5⟩
   rw [hV.out] at he hw5
   have HN5 := hid (hD.out.next (by omega) hw5)
   obtain ⟨qv, hqv⟩ : ∃ q, val ((o2.drop j).take (m' + 1)) / (b * d) = q := ⟨_, rfl⟩
   rw [hqv] at he HN5
   subst he
   have Q5 := hid (hQ.out.gb hg5 hgq)
   have R5 := hid (hR.out.gb hg5 hne)
   have B5 := hid (below_gb hB.out hB.out.size hg5 hgw)
   have A5 := hid hA5
   have d3 := Q5.out.cell hz
   have d4 := Q5.out.free j
   clear hw5 hA5 hg5 hqv hz
   go_wp2_with fail
   go_roundw
   case rel =>
    have hs : Below w5.heap.size w5 w5 := Below.refl _ _
    have hset : w5.grownBy (w5.setCell ⟨w3.heap.size, j, none⟩ (.int .i64 (qv : Int))) (some w3.heap.size) := gb_set (World.grownBy.refl _ _) _ _
    exact ⟨j, _, o5, _, rfl, rfl, by omega, HN5, A5.out.gb hset (fun e => hgq e.symm), Q5.out.set j qv, R5.out.gb hset (by omega), below_set B5.out hqw _⟩
   case measure => simp [intOf] <;> omega
theorem r1_Divide (w : World) (v u : Value) (a b : Nat) (ha : IsN .i64 w v a) (hb : IsN .i64 w u b) (h0 : 0 < b) (hla : (limbs a).length ≤ 1000000) :
 Calls Tryz.prog 164 #[v, u] w fun e w' => RetNN .i64 (a / b) (a % b) e w' ∧ Below w.heap.size w w' := by
 by_cases hlt : a < b
 ·exact divide_less w v u a b ha hb hlt
 ·by_cases h1 : b < 1000000000
  ·exact divide_one w v u a b ha hb (by omega) h0 h1 hla
  ·refine divide_many w v u a b _ ha hb (by omega) rfl ?_ hla
   have : 1 < (limbs b).length := limbs_lt_length.2 (by omega)
   omega
theorem r1_Common (w : World) (v u : Value) (a b : Nat) (ha : IsN .i64 w v a) (hb : IsN .i64 w u b) (hla : (limbs a).length ≤ 1000000) (hlb : (limbs b).length ≤ 1000000) :
 Calls Tryz.prog 163 #[v, u] w fun e w' => RetN .i64 (Nat.gcd a b) e w' ∧ Below w.heap.size w w' := by
 have HA := hid ha; have HB := hid hb; have LA := hid hla; have LB := hid hlb
 clear ha hb hla hlb
 go_enter Tryz.func163, Tryz.ntmps163
 go_wp2_with fail
 go_loopw [0, 1, 5, 6] (fun x y q r wr => ∃ m n : Nat, Hid (IsN .i64 wr x m) ∧ Hid (IsN .i64 wr y n) ∧ Hid ((limbs m).length ≤ 1000000) ∧ Hid ((limbs n).length ≤ 1000000) ∧ Hid (Nat.gcd m n = Nat.gcd a b) ∧ Hid (Below w.heap.size w wr))
  (fun x y q r wr => numOf .i64 wr y)
 case atStart => exact ⟨a, b, HA, HB, LA, LB, rfl, Below.refl _ _⟩
 case round =>
  obtain ⟨m, n, hx, hy, hm, hn, hg, hB⟩ := hrel
  have hnum := hid (numOf_eq hy.out)
  obtain ⟨a1, c1, rfl, h1, h1', h1''⟩ := hx.out.openI
  obtain ⟨a2, c2, rfl, h2, h2', h2''⟩ := hy.out.openI
  clear h1'' h2''
  by_cases h0 : n = 0
  ·subst h0
   have hl : (limbs 0).length = 0 := by rw [limbs_zero]; rfl
   rw [hl] at *
   clear hl
   go_wp2_with fail
   go_ret
   exact ⟨⟨_, rfl, by rw [← hg.out, Nat.gcd_zero_right]; exact hx.out⟩, hB.out⟩
  ·have hpos : 0 < (limbs n).length := List.length_pos_iff.2 (fun e => h0 (limbs_nil.1 e))
   have q0 : decide ((0 : Int) < ((limbs n).length : Int)) = true := by simp; omega
   go_wp2_with fail
   refine (r1_Divide _ _ _ m n hx.out hy.out (by omega) hm.out).mono ?_
   rintro e w1 ⟨⟨v1, v2, rfl, hv1, hv2⟩, hb1⟩
   have V2 := hid hv2; have B1 := hid (bnext hB.out hb1); have Y1 := hid (hy.out.call hb1)
   have hlt := hid (Nat.mod_lt m (y := n) (by omega))
   have hll := hid (show (limbs (m % n)).length ≤ 1000000 from Nat.le_trans (limbs_length_mono (Nat.le_of_lt hlt.out)) hn.out)
   have hgg := hid (show Nat.gcd n (m % n) = Nat.gcd a b from by rw [← hg.out, Nat.gcd_comm m n, Nat.gcd_rec n m, Nat.gcd_comm]) 
   clear hv1 hv2 hb1
   go_wp2_with fail
   go_roundw
   case rel => exact ⟨n, m % n, Y1, V2, hn, hll, hgg, B1⟩
   case measure => rw [numOf_eq V2.out, hnum.out]; exact hlt.out
open Go.Lib (decDigits nDigits)
theorem r2_one (w : World) : Calls Tryz.prog 101 #[] w fun e w' => RetN .i64 1 e w' ∧ Below w.heap.size w w' := by
 have H1 := hid (isN_one w)
 go_enter Tryz.func101, Tryz.ntmps101
 go_wp2_with fail
 go_ret
 exact ⟨⟨_, rfl, H1.out⟩, (Below.refl _ _).alloc (Nat.le_refl _) _⟩
theorem r2_Reduce (w : World) (m : Bool) (v u : Value) (n d : Nat) (hn : IsN .i64 w v n) (hd : IsN .i64 w u d) (h0 : 0 < d) (hln : (limbs n).length ≤ 1000000) (hld : (limbs d).length ≤ 1000000) :
 Calls Tryz.prog 109 #[.bool m, v, u] w fun e w' => RetQ .i64 (qmk m n d) e w' ∧ Below w.heap.size w w' := by
 have HN := hid hn; have HD := hid hd
 obtain ⟨a1, c1, rfl, _⟩ := hn.openI
 obtain ⟨a2, c2, rfl, _⟩ := hd.openI
 clear hn hd
 rcases Nat.eq_zero_or_pos n with rfl | hp
 ·have hl : (limbs 0).length = 0 := by rw [limbs_zero]; rfl
  rw [hl] at HN ⊢
  have hq := hid (qmk_zero m d)
  rw [hq.out]
  clear hl
  go_enter Tryz.func109, Tryz.ntmps109
  go_wp2_with fail
  refine (r2_one _).mono ?_; rintro e w1 ⟨⟨v1, rfl, hv1⟩, hb1⟩
  obtain ⟨a3, c3, rfl, _⟩ := hv1.openI
  have HV := hid hv1
  have HB := hid (show Blk w1 w.heap.size #[.bool false, .slice none 0 0, .slice none 0 0] 87 from (Blk.new w _ _).call hb1)
  have d0 := HB.out.cell 0
  have d1 := HB.out.cell 1
  have d2 := HB.out.cell 2
  have e0 := HB.out.free 0
  have e1 := HB.out.free 1
  have e2 := HB.out.free 2
  have HBB := hid hb1
  clear hb1 hv1
  simp at d0 d1 d2
  go_wp2_with fail
  obtain ⟨s1, s2⟩ := set3 HB.out false none a3 0 0 (limbs 1).length c3
  have f0 := s2.cell 0
  have f1 := s2.cell 1
  have f2 := s2.cell 2
  simp at f0 f1 f2
  refine bodyPost_ret (v := .agg #[.bool false, .slice none 0 0, .slice a3 (limbs 1).length c3]) (by simp [results, Tryz.results109, go_sem, f0, f1, f2]) rfl ⟨⟨_, rfl, IsQ.zero_ (s1 _ _ _ (IsN.zero _ _)) (s1 _ _ _ HV.out)⟩, ?_⟩
  exact (((((Below.refl _ _).alloc (Nat.le_refl _) _).trans (HBB.out.mono (by simp))).setCell (Nat.le_refl _) _).setCell (Nat.le_refl _) _).setCell (Nat.le_refl _) _
 ·have hpos : 0 < (limbs n).length := List.length_pos_iff.2 (fun e => by have := limbs_nil.1 e; omega)
  have q0 : (((limbs n).length : Int) == 0) = false := beq_eq_false_iff_ne.2 (by omega)
  obtain ⟨g, hg⟩ : ∃ g, Nat.gcd n d = g := ⟨_, rfl⟩
  have hgp : 0 < g := hg ▸ Nat.gcd_pos_of_pos_left d hp
  have HG := hid hg; have HGP := hid hgp; have HP := hid hp; have H0 := hid h0; have HLN := hid hln; have HLD := hid hld
  clear hg hgp hp h0 hln hld hpos
  go_enter Tryz.func109, Tryz.ntmps109
  go_wp2_with fail
  refine (r1_Common _ _ _ n d (HN.out.call ((Below.refl _ _).alloc (Nat.le_refl _) _)) (HD.out.call ((Below.refl _ _).alloc (Nat.le_refl _) _)) HLN.out HLD.out).mono ?_
  rintro e w1 ⟨⟨v1, rfl, hv1⟩, hb1⟩
  rw [HG.out] at hv1
  have HB1 := hid (show Blk w1 w.heap.size #[.bool false, .slice none 0 0, .slice none 0 0] 87 from (Blk.new w _ _).call hb1)
  have B1 := hid (((Below.refl w.heap.size w).alloc (Nat.le_refl _) (.cells #[.bool false, .slice none 0 0, .slice none 0 0] 87)).trans (hb1.mono (by simp)))
  have N1 := hid (HN.out.call B1.out); have D1 := hid (HD.out.call B1.out); have G1 := hid hv1
  clear hb1 hv1
  go_wp2_with fail
  refine (r1_Divide _ _ _ n g N1.out G1.out HGP.out HLN.out).mono ?_
  rintro e w2 ⟨⟨v2, v3, rfl, hv2, -⟩, hb2⟩
  have HB2 := hid (HB1.out.call hb2); have B2 := hid (bnext B1.out hb2); have D2 := hid (D1.out.call hb2); have G2 := hid (G1.out.call hb2); have V2 := hid hv2
  clear hb2 hv2
  go_wp2_with fail
  refine (r1_Divide _ _ _ d g D2.out G2.out HGP.out HLD.out).mono ?_
  rintro e w3 ⟨⟨v4, v5, rfl, hv4, -⟩, hb3⟩
  have HB3 := hid (HB2.out.call hb3); have B3 := hid (bnext B2.out hb3); have W2 := hid (V2.out.call hb3); have W4 := hid hv4
  clear hb3 hv4
  obtain ⟨a3, c3, rfl, _⟩ := W2.out.openI
  obtain ⟨a4, c4, rfl, _⟩ := W4.out.openI
  have d0 := HB3.out.cell 0
  have d1 := HB3.out.cell 1
  have d2 := HB3.out.cell 2
  have e0 := HB3.out.free 0
  have e1 := HB3.out.free 1
  have e2 := HB3.out.free 2
  simp at d0 d1 d2
  go_wp2_with fail
  obtain ⟨s1, s2⟩ := set3 HB3.out m a3 a4 (limbs (n / g)).length c3 (limbs (d / g)).length c4
  have f0 := s2.cell 0
  have f1 := s2.cell 1
  have f2 := s2.cell 2
  simp at f0 f1 f2
  refine bodyPost_ret (v := .agg #[.bool m, .slice a3 (limbs (n / g)).length c3, .slice a4 (limbs (d / g)).length c4]) (by simp [results, Tryz.results109, go_sem, f0, f1, f2]) rfl ⟨⟨_, rfl, IsQ.mk' HP.out H0.out (HG.out ▸ s1 _ _ _ W2.out) (HG.out ▸ s1 _ _ _ W4.out)⟩, ?_⟩
  exact ((B3.out.setCell (Nat.le_refl _) _).setCell (Nat.le_refl _) _).setCell (Nat.le_refl _) _
end Go.Proofs.YtckihjfkafdncaaGreatDoor
namespace Go.Proofs.YtckihjfkafdncaaGreatDoor
open Go.RowKit
theorem r1_Minus (w : World) (v u : Value) (a b : Nat) (ha : IsN .i64 w v a) (hb : IsN .i64 w u b) (hle : b ≤ a) (hla : (limbs a).length ≤ 1000000) :
 Calls Tryz.prog 125 #[v, u] w fun e w' => RetN .i64 (a - b) e w' ∧ Below w.heap.size w w' := by
 obtain ⟨i0, hi, hz0, hz1, hz2⟩ := info_parts info_int
 obtain ⟨a1, c1, rfl, h1, h2, h3⟩ := ha.openI
 obtain ⟨a2, c2, rfl, k1, k2, k3⟩ := hb.openI
 have H3 := hid h3; have K3 := hid k3; clear h3 k3 ha hb
 have hmn := limbs_length_mono hle
 obtain ⟨n, ea⟩ : ∃ n, (limbs a).length = n := ⟨_, rfl⟩
 obtain ⟨m, eb⟩ : ∃ m, (limbs b).length = m := ⟨_, rfl⟩
 rw [ea] at h1 hla hmn ⊢
 rw [eb] at k1 hmn ⊢
 have HA := hid ea; have HB := hid eb; have HL := hid hle
 clear ea eb hle
 go_enter Tryz.func125, Tryz.ntmps125
 go_wp2_with fail
 go_loopw [5, 6, 7, 8] (fun o cc i nn wr => ∃ (s : List Nat) (c : Nat) (C : Int), i = .int .i64 s.length ∧ cc = .int .i64 C ∧ C = (c : Int) ∧ c ≤ 1 ∧ s.length ≤ n ∧ Hid (MinusI a b s c) ∧ Hid (wr.ownsRow w.heap.size 3 1 o s.length (ints .i64 s)) ∧ Hid (Below w.heap.size w wr))
  (fun _ _ i _ _ => n - (intOf i).toNat)
 case atStart => exact ⟨[], 0, 0, rfl, rfl, rfl, by omega, by simp, MinusI.start a b, World.ownsRow_nil _ _ _ _, Below.refl _ _⟩
 case round =>
  obtain ⟨s, c, C, rfl, rfl, hC, hc1, hs1, hP, hO, hB⟩ := hrel
  obtain ⟨ao, co, rfl⟩ := owns_ex hO.out
  by_cases hA : s.length < n
  ·obtain ⟨x, hx⟩ : ∃ x, (limbs a)[s.length]? = some x := ⟨_, List.getElem?_eq_getElem (by rw [HA.out]; exact hA)⟩
   obtain ⟨g, og, rfl, hg, hc⟩ := H3.out _ x hx
   have hc' := (hB.out.cell (p := ⟨g, og + s.length, none⟩) hg).trans hc
   have hxl := (sm_limbs a).get hx
   have HX := hid hx; clear hx hc
   by_cases hB' : s.length < m
   ·obtain ⟨y, hy⟩ : ∃ y, (limbs b)[s.length]? = some y := ⟨_, List.getElem?_eq_getElem (by rw [HB.out]; exact hB')⟩
    obtain ⟨g', og', rfl, hg', hd⟩ := K3.out _ y hy
    have hd' := (hB.out.cell (p := ⟨g', og' + s.length, none⟩) hg').trans hd
    have hyl := (sm_limbs b).get hy
    have HY := hid hy; clear hy hd
    rcases (show c = 0 ∨ c = 1 by omega) with rfl | rfl
    ·obtain rfl : C = 0 := by omega
     clear hC
     by_cases hneg : x < y + 0
     ·obtain ⟨z, hz0', hz1', hzI⟩ : ∃ z : Nat, x + 1000000000 * 1 = z + 0 + y ∧ z < 1000000000 ∧ Hid ((↑x - ↑y + 1000000000 : Int) = (z : Int)) := ⟨((↑x - ↑y + 1000000000 : Int)).toNat, by omega, by omega, by rw [Hid]; omega⟩
      have HN := hid (hP.out.next (z := z) (c' := 1) (by rw [getD_of HX.out, getD_of HY.out]; omega) hz1' (by omega))
      clear hz0' hz1'
      have q1 : decide ((x : Int) - (y : Int) < 0) = true := by simp <;> omega
      clear hneg
      go_wp2_with (at_builtin; refine wpList_append_own _ rfl _ _ 82 rfl w.heap.size 3 i0 (.int .i64 0) 1 8 Tryz.underlying82 hi hz0 hz1 hz2 rfl (by decide) _ s.length _ rfl (hO.out.alloc _) ⟨wr.heap.size, 0, none⟩ 1 1 [.int .i64 ((↑x - ↑y + 1000000000 : Int))] rfl rfl (cell_one_new wr (.int .i64 ((↑x - ↑y + 1000000000 : Int))) 3) (by simp [Value.oneCell']) (by unfold maxLen; omega) (by omega) (by have := hB.out.size; simp; omega) ?_; intro v' w3 hown3 hgrow3 _; have HO3 := hid hown3; have HG3 := hid hgrow3; clear hown3 hgrow3)
      rw [hzI.out] at HO3
      obtain ⟨n1, n2⟩ := own_next hO.out hB.out HO3.out HG3.out
      have N1 := hid n1; have N2 := hid n2; clear n1 n2 HO3 HG3
      obtain ⟨a3, k3, rfl⟩ := owns_ex N1.out
      go_wp2_with fail
      go_roundw
      case rel => exact ⟨s ++ [z], 1, _, by simp, rfl, by simp, by omega, by simp <;> omega, HN, N1, N2⟩
      case measure => simp [intOf] <;> omega
     ·obtain ⟨z, hz0', hz1', hzI⟩ : ∃ z : Nat, x + 1000000000 * 0 = z + 0 + y ∧ z < 1000000000 ∧ Hid ((↑x - ↑y : Int) = (z : Int)) := ⟨((↑x - ↑y : Int)).toNat, by omega, by omega, by rw [Hid]; omega⟩
      have HN := hid (hP.out.next (z := z) (c' := 0) (by rw [getD_of HX.out, getD_of HY.out]; omega) hz1' (by omega))
      clear hz0' hz1'
      have q1 : decide ((x : Int) - (y : Int) < 0) = false := by simp <;> omega
      clear hneg
      go_wp2_with (at_builtin; refine wpList_append_own _ rfl _ _ 82 rfl w.heap.size 3 i0 (.int .i64 0) 1 8 Tryz.underlying82 hi hz0 hz1 hz2 rfl (by decide) _ s.length _ rfl (hO.out.alloc _) ⟨wr.heap.size, 0, none⟩ 1 1 [.int .i64 ((↑x - ↑y : Int))] rfl rfl (cell_one_new wr (.int .i64 ((↑x - ↑y : Int))) 3) (by simp [Value.oneCell']) (by unfold maxLen; omega) (by omega) (by have := hB.out.size; simp; omega) ?_; intro v' w3 hown3 hgrow3 _; have HO3 := hid hown3; have HG3 := hid hgrow3; clear hown3 hgrow3)
      rw [hzI.out] at HO3
      obtain ⟨n1, n2⟩ := own_next hO.out hB.out HO3.out HG3.out
      have N1 := hid n1; have N2 := hid n2; clear n1 n2 HO3 HG3
      obtain ⟨a3, k3, rfl⟩ := owns_ex N1.out
      go_wp2_with fail
      go_roundw
      case rel => exact ⟨s ++ [z], 0, _, by simp, rfl, by simp, by omega, by simp <;> omega, HN, N1, N2⟩
      case measure => simp [intOf] <;> omega
    ·obtain rfl : C = 1 := by omega
     clear hC
     by_cases hneg : x < y + 1
     ·obtain ⟨z, hz0', hz1', hzI⟩ : ∃ z : Nat, x + 1000000000 * 1 = z + 1 + y ∧ z < 1000000000 ∧ Hid ((↑x - 1 - ↑y + 1000000000 : Int) = (z : Int)) := ⟨((↑x - 1 - ↑y + 1000000000 : Int)).toNat, by omega, by omega, by rw [Hid]; omega⟩
      have HN := hid (hP.out.next (z := z) (c' := 1) (by rw [getD_of HX.out, getD_of HY.out]; omega) hz1' (by omega))
      clear hz0' hz1'
      have q1 : decide ((x : Int) - 1 - (y : Int) < 0) = true := by simp <;> omega
      clear hneg
      go_wp2_with (at_builtin; refine wpList_append_own _ rfl _ _ 82 rfl w.heap.size 3 i0 (.int .i64 0) 1 8 Tryz.underlying82 hi hz0 hz1 hz2 rfl (by decide) _ s.length _ rfl (hO.out.alloc _) ⟨wr.heap.size, 0, none⟩ 1 1 [.int .i64 ((↑x - 1 - ↑y + 1000000000 : Int))] rfl rfl (cell_one_new wr (.int .i64 ((↑x - 1 - ↑y + 1000000000 : Int))) 3) (by simp [Value.oneCell']) (by unfold maxLen; omega) (by omega) (by have := hB.out.size; simp; omega) ?_; intro v' w3 hown3 hgrow3 _; have HO3 := hid hown3; have HG3 := hid hgrow3; clear hown3 hgrow3)
      rw [hzI.out] at HO3
      obtain ⟨n1, n2⟩ := own_next hO.out hB.out HO3.out HG3.out
      have N1 := hid n1; have N2 := hid n2; clear n1 n2 HO3 HG3
      obtain ⟨a3, k3, rfl⟩ := owns_ex N1.out
      go_wp2_with fail
      go_roundw
      case rel => exact ⟨s ++ [z], 1, _, by simp, rfl, by simp, by omega, by simp <;> omega, HN, N1, N2⟩
      case measure => simp [intOf] <;> omega
     ·obtain ⟨z, hz0', hz1', hzI⟩ : ∃ z : Nat, x + 1000000000 * 0 = z + 1 + y ∧ z < 1000000000 ∧ Hid ((↑x - 1 - ↑y : Int) = (z : Int)) := ⟨((↑x - 1 - ↑y : Int)).toNat, by omega, by omega, by rw [Hid]; omega⟩
      have HN := hid (hP.out.next (z := z) (c' := 0) (by rw [getD_of HX.out, getD_of HY.out]; omega) hz1' (by omega))
      clear hz0' hz1'
      have q1 : decide ((x : Int) - 1 - (y : Int) < 0) = false := by simp <;> omega
      clear hneg
      go_wp2_with (at_builtin; refine wpList_append_own _ rfl _ _ 82 rfl w.heap.size 3 i0 (.int .i64 0) 1 8 Tryz.underlying82 hi hz0 hz1 hz2 rfl (by decide) _ s.length _ rfl (hO.out.alloc _) ⟨wr.heap.size, 0, none⟩ 1 1 [.int .i64 ((↑x - 1 - ↑y : Int))] rfl rfl (cell_one_new wr (.int .i64 ((↑x - 1 - ↑y : Int))) 3) (by simp [Value.oneCell']) (by unfold maxLen; omega) (by omega) (by have := hB.out.size; simp; omega) ?_; intro v' w3 hown3 hgrow3 _; have HO3 := hid hown3; have HG3 := hid hgrow3; clear hown3 hgrow3)
      rw [hzI.out] at HO3
      obtain ⟨n1, n2⟩ := own_next hO.out hB.out HO3.out HG3.out
      have N1 := hid n1; have N2 := hid n2; clear n1 n2 HO3 HG3
      obtain ⟨a3, k3, rfl⟩ := owns_ex N1.out
      go_wp2_with fail
      go_roundw
      case rel => exact ⟨s ++ [z], 0, _, by simp, rfl, by simp, by omega, by simp <;> omega, HN, N1, N2⟩
      case measure => simp [intOf] <;> omega
   ·skip
    rcases (show c = 0 ∨ c = 1 by omega) with rfl | rfl
    ·obtain rfl : C = 0 := by omega
     clear hC
     by_cases hneg : x < 0 + 0
     ·omega
     ·obtain ⟨z, hz0', hz1', hzI⟩ : ∃ z : Nat, x + 1000000000 * 0 = z + 0 + 0 ∧ z < 1000000000 ∧ Hid ((↑x : Int) = (z : Int)) := ⟨((↑x : Int)).toNat, by omega, by omega, by rw [Hid]; omega⟩
      have HN := hid (hP.out.next (z := z) (c' := 0) (by rw [getD_of HX.out, getD_none (by rw [HB.out]; omega)]; omega) hz1' (by omega))
      clear hz0' hz1'
      have q1 : decide ((x : Int) < 0) = false := by simp <;> omega
      clear hneg
      go_wp2_with (at_builtin; refine wpList_append_own _ rfl _ _ 82 rfl w.heap.size 3 i0 (.int .i64 0) 1 8 Tryz.underlying82 hi hz0 hz1 hz2 rfl (by decide) _ s.length _ rfl (hO.out.alloc _) ⟨wr.heap.size, 0, none⟩ 1 1 [.int .i64 ((↑x : Int))] rfl rfl (cell_one_new wr (.int .i64 ((↑x : Int))) 3) (by simp [Value.oneCell']) (by unfold maxLen; omega) (by omega) (by have := hB.out.size; simp; omega) ?_; intro v' w3 hown3 hgrow3 _; have HO3 := hid hown3; have HG3 := hid hgrow3; clear hown3 hgrow3)
      rw [hzI.out] at HO3
      obtain ⟨n1, n2⟩ := own_next hO.out hB.out HO3.out HG3.out
      have N1 := hid n1; have N2 := hid n2; clear n1 n2 HO3 HG3
      obtain ⟨a3, k3, rfl⟩ := owns_ex N1.out
      go_wp2_with fail
      go_roundw
      case rel => exact ⟨s ++ [z], 0, _, by simp, rfl, by simp, by omega, by simp <;> omega, HN, N1, N2⟩
      case measure => simp [intOf] <;> omega
    ·obtain rfl : C = 1 := by omega
     clear hC
     by_cases hneg : x < 0 + 1
     ·obtain ⟨z, hz0', hz1', hzI⟩ : ∃ z : Nat, x + 1000000000 * 1 = z + 1 + 0 ∧ z < 1000000000 ∧ Hid ((↑x - 1 + 1000000000 : Int) = (z : Int)) := ⟨((↑x - 1 + 1000000000 : Int)).toNat, by omega, by omega, by rw [Hid]; omega⟩
      have HN := hid (hP.out.next (z := z) (c' := 1) (by rw [getD_of HX.out, getD_none (by rw [HB.out]; omega)]; omega) hz1' (by omega))
      clear hz0' hz1'
      have q1 : decide ((x : Int) - 1 < 0) = true := by simp <;> omega
      clear hneg
      go_wp2_with (at_builtin; refine wpList_append_own _ rfl _ _ 82 rfl w.heap.size 3 i0 (.int .i64 0) 1 8 Tryz.underlying82 hi hz0 hz1 hz2 rfl (by decide) _ s.length _ rfl (hO.out.alloc _) ⟨wr.heap.size, 0, none⟩ 1 1 [.int .i64 ((↑x - 1 + 1000000000 : Int))] rfl rfl (cell_one_new wr (.int .i64 ((↑x - 1 + 1000000000 : Int))) 3) (by simp [Value.oneCell']) (by unfold maxLen; omega) (by omega) (by have := hB.out.size; simp; omega) ?_; intro v' w3 hown3 hgrow3 _; have HO3 := hid hown3; have HG3 := hid hgrow3; clear hown3 hgrow3)
      rw [hzI.out] at HO3
      obtain ⟨n1, n2⟩ := own_next hO.out hB.out HO3.out HG3.out
      have N1 := hid n1; have N2 := hid n2; clear n1 n2 HO3 HG3
      obtain ⟨a3, k3, rfl⟩ := owns_ex N1.out
      go_wp2_with fail
      go_roundw
      case rel => exact ⟨s ++ [z], 1, _, by simp, rfl, by simp, by omega, by simp <;> omega, HN, N1, N2⟩
      case measure => simp [intOf] <;> omega
     ·obtain ⟨z, hz0', hz1', hzI⟩ : ∃ z : Nat, x + 1000000000 * 0 = z + 1 + 0 ∧ z < 1000000000 ∧ Hid ((↑x - 1 : Int) = (z : Int)) := ⟨((↑x - 1 : Int)).toNat, by omega, by omega, by rw [Hid]; omega⟩
      have HN := hid (hP.out.next (z := z) (c' := 0) (by rw [getD_of HX.out, getD_none (by rw [HB.out]; omega)]; omega) hz1' (by omega))
      clear hz0' hz1'
      have q1 : decide ((x : Int) - 1 < 0) = false := by simp <;> omega
      clear hneg
      go_wp2_with (at_builtin; refine wpList_append_own _ rfl _ _ 82 rfl w.heap.size 3 i0 (.int .i64 0) 1 8 Tryz.underlying82 hi hz0 hz1 hz2 rfl (by decide) _ s.length _ rfl (hO.out.alloc _) ⟨wr.heap.size, 0, none⟩ 1 1 [.int .i64 ((↑x - 1 : Int))] rfl rfl (cell_one_new wr (.int .i64 ((↑x - 1 : Int))) 3) (by simp [Value.oneCell']) (by unfold maxLen; omega) (by omega) (by have := hB.out.size; simp; omega) ?_; intro v' w3 hown3 hgrow3 _; have HO3 := hid hown3; have HG3 := hid hgrow3; clear hown3 hgrow3)
      rw [hzI.out] at HO3
      obtain ⟨n1, n2⟩ := own_next hO.out hB.out HO3.out HG3.out
      have N1 := hid n1; have N2 := hid n2; clear n1 n2 HO3 HG3
      obtain ⟨a3, k3, rfl⟩ := owns_ex N1.out
      go_wp2_with fail
      go_roundw
      case rel => exact ⟨s ++ [z], 0, _, by simp, rfl, by simp, by omega, by simp <;> omega, HN, N1, N2⟩
      case measure => simp [intOf] <;> omega
  ·obtain rfl : s.length = n := by omega
   have hv := hid (hP.out.done HA.out.symm HL.out)
   go_wp2_with (go_at_call 97; refine (r1_trim _ _ s hP.out.sm (Row.of_owns hO.out)).mono ?_; rintro e w1 ⟨⟨v1, rfl, hv1⟩, rfl⟩)
   go_ret
   exact ⟨⟨v1, rfl, by rw [← hv.out]; exact hv1⟩, hB.out⟩
open Go.Lib (decDigits nDigits)
structure Few (ws : List Nat) : Prop where
 len : ws.length ≤ 64
 dig : ∀ x ∈ ws, nDigits x ≤ 300
 pos : 0 < ws.sum
section
variable {ws : List Nat} {m : Nat} (h : Few ws) (hm : m ≤ 256)
include h
include hm
omit hm
end
open Go.Shelf
theorem shB_ne {a b : Nat} (hb : b ≠ 0) (h1 : nDigits a ≤ 4000) (h2 : nDigits b ≤ 4000) (ha : a ≠ 0) : shB a b ≠ ⟨#[48]⟩ := fun e => by
 rw [← shB_zero b, shB_tx hb h1 h2, shB_tx hb (by rw [nDigits_zero]; omega) h2] at e
 have e' := congrArg vQ e
 rw [vQ_txQ, vQ_txQ] at e'
 have h3 := (Rat.mkRat_eq_iff hb hb).1 e'
 have h4 : ((a * b : Nat) : Int) = 0 := by rw [Int.natCast_mul, h3]; simp
 have hp : 0 < a * b := Nat.mul_pos (by omega) (by omega)
 omega
end Go.Proofs.YtckihjfkafdncaaGreatDoor
namespace Go.Proofs.YtckihjfkafdncaaGreatDoor
open Go.RowKit
open Go.Lib (decDigits nDigits)
def fkN (g : Int → Nat) (n : Nat) (ci v : Int) (i : Nat) (c : List Int) : Nat → Nat
 | 0 => g v
 | k + 1 => if k = i then fkN g n ci v i c k else fkN g n ci v i c k * cmC g n (if k < i then ci + v - c.getD k 0 else ci + v - c.getD k 0 + 1)
theorem fkF_at (g : Int → Nat) (n : Nat) (ci v : Int) (i : Nat) (c : List Int) : ∀ m k, k + m = c.length → fkF g n ci v i k (c.drop k) (fkN g n ci v i c k) = fkN g n ci v i c c.length
 | 0, k, h => by
  obtain rfl : k = c.length := by omega
  rw [List.drop_length]; rfl
 | m + 1, k, h => by
  have hk : k < c.length := by omega
  have hd : c.getD k 0 = c[k] := by rw [List.getD_eq_getElem?_getD, List.getElem?_eq_getElem hk]; rfl
  rw [List.drop_eq_getElem_cons hk, fkF, ← hd]
  have := fkF_at g n ci v i c m (k + 1) (by omega)
  rw [fkN] at this
  exact this
theorem fkF_end (g : Int → Nat) (n : Nat) (ci v : Int) (i : Nat) (c : List Int) : fkF g n ci v i 0 c (g v) = fkN g n ci v i c c.length := fkF_at g n ci v i c c.length 0 (by omega)
def bI (i k : Nat) : Nat := if k ≤ i then k + 1 else k
theorem bI_same (i : Nat) : bI i (i + 1) = bI i i := by unfold bI; rw [if_neg (by omega), if_pos (Nat.le_refl _)]
theorem bI_next {i k : Nat} (h : k ≠ i) : bI i (k + 1) = bI i k + 1 := by unfold bI; split <;> split <;> omega
theorem bI_end {i L : Nat} (h : i < L) : bI i L = L := if_neg (by omega)
theorem bI_le {i k L : Nat} (h : i < L) (hk : k ≤ L) : bI i k ≤ L := by unfold bI; split <;> omega
section
variable {g : Int → Nat} {n : Nat} (hg : ∀ v : Int, v < 0 → g v = 0) (hz : zS n g ≤ 2 ^ n)
include hg hz
theorem g_le {v : Int} (h : v ≤ n) : g v ≤ 2 ^ n := by
 by_cases h0 : v < 0
 ·rw [hg v h0]; exact Nat.zero_le _
 ·refine Nat.le_trans ?_ hz
  rw [zS_nat hg]
  have := sumN_at (f := fun j => g (j : Int)) (i := v.toNat) (n := n + 1) (by omega)
  rwa [show ((v.toNat : Nat) : Int) = v by omega] at this
theorem fkN_le {ci v : Int} {i : Nat} {c : List Int} (hv : v ≤ n) : ∀ k, fkN g n ci v i c k ≤ 2 ^ (n * bI i k)
 | 0 => by
  show g v ≤ 2 ^ (n * 1)
  rw [Nat.mul_one]; exact g_le hg hz hv
 | k + 1 => by
  rw [fkN]
  by_cases h : k = i
  ·subst h
   rw [if_pos rfl, bI_same]; exact fkN_le hv k
  ·rw [if_neg h, bI_next h, Nat.mul_add, Nat.mul_one, Nat.pow_add]
   exact Nat.mul_le_mul (fkN_le hv k) (cmC_le hz hg _)
theorem fk_times {ci v : Int} {i k : Nat} {c : List Int} (hv : v ≤ n) (hi : i < c.length) (hk : k < c.length) (hne : k ≠ i) (hm : n * c.length ≤ 1000) :
 op2B (· * ·) (dyB (fkN g n ci v i c k) (n * bI i k)) (dyB (cmC g n (if k < i then ci + v - c.getD k 0 else ci + v - c.getD k 0 + 1)) n) = dyB (fkN g n ci v i c (k + 1)) (n * bI i (k + 1)) := by
 have hb := bI_le hi (show k + 1 ≤ c.length by omega)
 rw [bI_next hne] at hb
 have h2 : n * bI i k + n ≤ 1000 := by
  have := Nat.mul_le_mul_left n hb
  rw [Nat.mul_add, Nat.mul_one] at this
  omega
 rw [dy_mul (fkN_le hg hz hv k) (cmC_le hz hg _) h2, fkN, if_neg hne, bI_next hne, Nat.mul_add, Nat.mul_one]
def fkS (g : Int → Nat) (n : Nat) (c : List Int) (i m : Nat) : Nat := sumN (fun v => fkN g n (c.getD i 0) (v : Int) i c c.length) m
omit hg hz in
theorem fkS_end (c : List Int) (i : Nat) : fkS g n c i (n + 1) = fkT g n c i := sumN_congr fun v _ => (fkF_end g n _ _ i c).symm
theorem fkT_one {c : List Int} {i : Nat} (hi : i < c.length) : sumN (fkT g n c) i + fkT g n c i ≤ 2 ^ (n * c.length) := fkT_le hg hz (c := c) (M := i + 1) (by omega)
theorem fk_plus {c : List Int} {i v : Nat} (hi : i < c.length) (hv : v ≤ n) (hm : n * c.length ≤ 1000) :
 op2B (· + ·) (dyB (fkS g n c i v) (n * c.length)) (dyB (fkN g n (c.getD i 0) (v : Int) i c c.length) (n * bI i c.length)) = dyB (fkS g n c i (v + 1)) (n * c.length) := by
 rw [bI_end hi, dy_add _ hm]
 ·rfl
 ·have h1 : fkS g n c i (v + 1) ≤ fkS g n c i (n + 1) := sumN_mono (by omega)
  rw [fkS_end] at h1
  have h2 := fkT_one hg hz hi
  have h3 : fkS g n c i (v + 1) = fkS g n c i v + fkN g n (c.getD i 0) (v : Int) i c c.length := rfl
  omega
def fkR (g : Int → Nat) (n : Nat) (c : List Int) (i : Nat) : Nat := 2 ^ (n * c.length) - sumN (fkT g n c) i
theorem fk_less {c : List Int} {i : Nat} (hi : i < c.length) (hm : n * c.length ≤ 1000) : op2B (· - ·) (dyB (fkR g n c i) (n * c.length)) (dyB (fkT g n c i) (n * c.length)) = dyB (fkR g n c (i + 1)) (n * c.length) := by
 have h2 := fkT_one hg hz hi
 unfold fkR
 rw [dy_sub (Nat.sub_le _ _) (by omega) hm, sumN]
 congr 1; omega
def cmS (g : Int → Nat) (j : Nat) : Nat := sumN (fun x => g (x : Int)) j
theorem cmS_le {j : Nat} (hj : j ≤ n + 1) : cmS g j ≤ 2 ^ n := by
 refine Nat.le_trans (sumN_mono hj) ?_
 rw [← zS_nat hg]; exact hz
theorem cm_plus {j : Nat} (hj : j ≤ n) (hm : n ≤ 1000) : op2B (· + ·) (dyB (cmS g j) n) (dyB (g (j : Int)) n) = dyB (cmS g (j + 1)) n := by
 have := cmS_le hg hz (show j + 1 ≤ n + 1 by omega)
 rw [dy_add (show cmS g j + g (j : Int) ≤ 2 ^ n from this) hm]; rfl
omit hg hz in
theorem cmC_at (j : Int) : cmC g n j = cmS g (max 0 (min j ((n : Int) + 1))).toNat := rfl
end
def fkAll (g : Int → Nat) (n : Nat) (c : List Int) (i : Nat) : List (ByteArray × ByteArray) := (List.range i).map fun k => (numB k, dyB (fkT g n c k) (n * c.length))
def fkW (g : Int → Nat) (n : Nat) (c : List Int) : List (ByteArray × ByteArray) := fkAll g n c c.length ++ [(lateB, dyB (fkR g n c c.length) (n * c.length))]
def notZ (p : ByteArray × ByteArray) : Bool := decide (p.2 ≠ ⟨#[48]⟩)
def fkP (g : Int → Nat) (n : Nat) (c : List Int) : List (ByteArray × ByteArray) := (fkW g n c).filter notZ
theorem fkAll_succ (g : Int → Nat) (n : Nat) (c : List Int) (i : Nat) : fkAll g n c (i + 1) = fkAll g n c i ++ [(numB i, dyB (fkT g n c i) (n * c.length))] := by
 unfold fkAll
 rw [List.range_succ, List.map_append]; rfl
theorem fkAll_length (g : Int → Nat) (n : Nat) (c : List Int) (i : Nat) : (fkAll g n c i).length = i := by simp [fkAll]
theorem dy_eq_zero {x m : Nat} (hx : x ≤ 2 ^ m) (h : m ≤ 1000) : dyB x m = ⟨#[48]⟩ ↔ x = 0 :=
 ⟨fun e => Classical.byContradiction fun h0 => shB_ne (pow_ne m) (dy_nd hx h) (dy_nd (Nat.le_refl _) h) h0 e, fun e => e ▸ dy_zero m⟩
theorem fkW_nd (g : Int → Nat) (n : Nat) (c : List Int) : ((fkW g n c).map keyL).Nodup := by
 unfold fkW fkAll
 rw [List.map_append, List.map_map, List.map_singleton, List.nodup_append]
 refine ⟨?_, by simp, ?_⟩
 ·rw [List.Nodup, List.pairwise_map]
  refine List.nodup_range.imp fun {a b} hab e => hab ?_
  simp only [Function.comp, keyL, numB_list] at e
  exact decDigits_inj e
 ·intro a ha b hb
  simp only [List.mem_map, List.mem_singleton, Function.comp] at ha hb
  obtain ⟨k, _, rfl⟩ := ha
  subst hb
  have := zB_late (k : Int)
  rw [zB_nat] at this
  exact this
theorem fkP_nd (g : Int → Nat) (n : Nat) (c : List Int) : ((fkP g n c).map keyL).Nodup := (List.filter_sublist.map keyL).nodup (fkW_nd g n c)
def mxR (s t : ByteArray) : ByteArray := if cmE s t = 0 then (if 0 ≤ cmB s t then s else t) else ⟨#[]⟩
def bydT (F : ByteArray) (M : List (ByteArray × ByteArray)) (t : ByteArray) (p : ByteArray × ByteArray) : ByteArray := op2B (· + ·) t (mxR (op2B (· - ·) p.2 (op2B (· * ·) F (valM M p.1))) ⟨#[48]⟩)
def bydB (F : ByteArray) (L M : List (ByteArray × ByteArray)) : ByteArray := L.foldl (bydT F M) ⟨#[48]⟩
theorem bydB_snoc (F : ByteArray) (L M : List (ByteArray × ByteArray)) (p : ByteArray × ByteArray) : bydB F (L ++ [p]) M = bydT F M (bydB F L M) p := by
 unfold bydB
 rw [List.foldl_append]; rfl
section
variable {G H m K : Nat} (hG0 : G ≠ 0) (hK : 0 < K ∧ K ≤ 3000) (hG : G * 2 ^ m < 10 ^ K) (hH : H * 2 ^ m < 10 ^ K)
include hG0 hK hG hH
theorem byd_den : G * 2 ^ m ≠ 0 := Nat.mul_ne_zero hG0 (pow_ne m)
theorem byd_m : 2 ^ m < 10 ^ K := Nat.lt_of_le_of_lt (Nat.le_mul_of_pos_left _ (by omega)) hG
theorem byd_fit {z : Int} (hz : z.natAbs < 10 ^ (K + 4)) : ¬ ovQ (mkRat z (G * 2 ^ m)) := by
 have h1 := nDigits_le (k := K + 4) (by omega) hz
 have h2 := nDigits_le (k := K) (by omega) hG
 exact (dig_frac (K := 4000) (byd_den hG0 hK hG hH) (by omega) (by omega)).fits (by omega) (by omega)
theorem byd_fitF : ¬ ovQ (mkRat (H : Int) G) := by
 have h1 := nDigits_le (k := K) (by omega) (Nat.lt_of_le_of_lt (Nat.le_mul_of_pos_right H (Nat.pos_of_ne_zero (pow_ne m))) hH)
 have h2 := nDigits_le (k := K) (by omega) (Nat.lt_of_le_of_lt (Nat.le_mul_of_pos_right G (Nat.pos_of_ne_zero (pow_ne m))) hG)
 exact (dig_frac (K := 4000) hG0 (by rw [Int.natAbs_natCast]; omega) (by omega)).fits (by omega) (by omega)
theorem byd_dy {x : Nat} (hx : x ≤ 2 ^ m) : dyB x m = txQ (dyQ x m) ∧ ¬ ovQ (dyQ x m) := by
 have h0 := byd_m hG0 hK hG hH
 have h1 := nDigits_le (k := K) (by omega) (Nat.lt_of_le_of_lt hx h0)
 have h2 := nDigits_le (k := K) (by omega) h0
 refine ⟨shB_tx (pow_ne m) (by omega) (by omega), ?_⟩
 exact (dig_frac (K := 4000) (pow_ne m) (by rw [Int.natAbs_natCast]; omega) (by omega)).fits (by omega) (by omega)
theorem byd_one {x y : Nat} (hx : x ≤ 2 ^ m) (hy : y ≤ 2 ^ m) : mxR (op2B (· - ·) (dyB x m) (op2B (· * ·) (txQ (mkRat (H : Int) G)) (dyB y m))) ⟨#[48]⟩ = txQ (mkRat ((x * G - y * H : Nat) : Int) (G * 2 ^ m)) := by
 have hden := byd_den hG0 hK hG hH
 have hKK : (10 : Nat) ^ K ≤ 10 ^ (K + 4) := Nat.pow_le_pow_right (by omega) (by omega)
 obtain ⟨x1, x2⟩ := byd_dy hG0 hK hG hH hx
 obtain ⟨y1, y2⟩ := byd_dy hG0 hK hG hH hy
 have hyH : y * H < 10 ^ K := Nat.lt_of_le_of_lt (by rw [Nat.mul_comm]; exact Nat.mul_le_mul_left H hy) hH
 have hxG : x * G < 10 ^ K := Nat.lt_of_le_of_lt (by rw [Nat.mul_comm]; exact Nat.mul_le_mul_left G hx) hG
 have e1 : mkRat (H : Int) G * dyQ y m = mkRat ((y * H : Nat) : Int) (G * 2 ^ m) := by
  unfold dyQ
  rw [Rat.mkRat_mul_mkRat, Int.natCast_mul, Int.mul_comm]
 have f1 := byd_fit hG0 hK hG hH (z := ((y * H : Nat) : Int)) (by rw [Int.natAbs_natCast]; omega)
 have o1 := (op2_txt (f := (· * ·)) (byd_fitF hG0 hK hG hH) y2 (by show ¬ ovQ (_ * _); rw [e1]; exact f1)).1
 have e2 : dyQ x m - mkRat ((y * H : Nat) : Int) (G * 2 ^ m) = mkRat (((x * G : Nat) : Int) - ((y * H : Nat) : Int)) (G * 2 ^ m) := by
  have : dyQ x m = mkRat ((x * G : Nat) : Int) (G * 2 ^ m) := by
   unfold dyQ
   rw [Nat.mul_comm G, Int.natCast_mul, Rat.mkRat_mul_right hG0]
  rw [this, Rat.sub_eq_add_neg, Rat.neg_mkRat, Rat.mkRat_add_mkRat _ _ hden hden, ← Int.add_mul, Rat.mkRat_mul_right hden]
  rfl
 have f2 := byd_fit hG0 hK hG hH (z := ((x * G : Nat) : Int) - ((y * H : Nat) : Int)) (by omega)
 have o2 := (op2_txt (f := (· - ·)) x2 f1 (by show ¬ ovQ (_ - _); rw [e2]; exact f2)).1
 have hz0 : (⟨#[48]⟩ : ByteArray) = txQ (mkRat 0 (G * 2 ^ m)) := by
  rw [← shB_zero (G * 2 ^ m)]
  exact shB_tx hden (by rw [nDigits_zero]; omega) (by have := nDigits_le (k := K) (by omega) hG; omega)
 have f3 := byd_fit hG0 hK hG hH (z := 0) (by rw [Int.natAbs_zero]; exact Nat.pow_pos (by omega))
 rw [x1, y1, o1]
 show mxR (op2B _ _ (txQ (_ * _))) _ = _
 rw [e1, o2]
 show mxR (txQ (_ - _)) _ = _
 rw [e2, hz0]
 obtain ⟨c1, c2⟩ := cm_txt f2 f3
 unfold mxR
 rw [c2, if_pos rfl, c1]
 have e3 : mkRat (((x * G : Nat) : Int) - ((y * H : Nat) : Int)) (G * 2 ^ m) - mkRat 0 (G * 2 ^ m) = mkRat (((x * G : Nat) : Int) - ((y * H : Nat) : Int)) (G * 2 ^ m) := by
  rw [Rat.zero_mkRat, Rat.sub_eq_add_neg, show -(0 : Rat) = 0 from rfl, Rat.add_zero]
 unfold ordQ
 rw [e3, sgnQ_mk hden]
 by_cases hc : y * H ≤ x * G
 ·rw [if_pos (by unfold sgnZ; split <;> (try split) <;> omega)]
  congr 2
  omega
 ·rw [if_neg (by unfold sgnZ; split <;> (try split) <;> omega), Nat.sub_eq_zero_of_le (by omega)]
  rfl
theorem byd_all {M : List (ByteArray × ByteArray)} {x y : ByteArray × ByteArray → Nat} : ∀ {L : List (ByteArray × ByteArray)}, L.length ≤ 1000 → (∀ p ∈ L, x p ≤ 2 ^ m ∧ y p ≤ 2 ^ m ∧ p.2 = dyB (x p) m ∧ valM M p.1 = dyB (y p) m) →
 bydB (txQ (mkRat (H : Int) G)) L M = txQ (mkRat (((L.map fun p => x p * G - y p * H).sum : Nat) : Int) (G * 2 ^ m)) ∧ (L.map fun p => x p * G - y p * H).sum ≤ L.length * 10 ^ K := by
 intro L
 induction h : L.length generalizing L with
 | zero =>
  intro _ _
  obtain rfl := List.length_eq_zero_iff.1 h
  refine ⟨?_, by simp⟩
  show (⟨#[48]⟩ : ByteArray) = _
  rw [← shB_zero (G * 2 ^ m)]
  exact shB_tx (byd_den hG0 hK hG hH) (by rw [nDigits_zero]; omega) (by have := nDigits_le (k := K) (by omega) hG; omega)
 | succ k ih =>
  intro hl hp
  obtain ⟨r, p, rfl⟩ : ∃ r p, L = r ++ [p] := ⟨L.dropLast, L.getLast (fun e => by subst e; simp at h), (List.dropLast_concat_getLast _).symm⟩
  rw [List.length_append, List.length_singleton] at h
  obtain ⟨i1, i2⟩ := ih (L := r) (by omega) (by omega) (fun q hq => hp q (List.mem_append_left _ hq))
  obtain ⟨p1, p2, p3, p4⟩ := hp p (by simp)
  have hden := byd_den hG0 hK hG hH
  have hxG : x p * G < 10 ^ K := Nat.lt_of_le_of_lt (by rw [Nat.mul_comm]; exact Nat.mul_le_mul_left G p1) hG
  have hs : (List.map (fun p => x p * G - y p * H) (r ++ [p])).sum = (r.map fun p => x p * G - y p * H).sum + (x p * G - y p * H) := by simp
  have hle : (r.map fun p => x p * G - y p * H).sum + (x p * G - y p * H) ≤ (k + 1) * 10 ^ K := by
   rw [Nat.add_mul, Nat.one_mul]
   have := Nat.sub_le (x p * G) (y p * H)
   omega
  have big : (k + 1) * 10 ^ K < 10 ^ (K + 4) := by
   rw [Nat.pow_add, Nat.mul_comm]
   refine Nat.mul_lt_mul_of_pos_left ?_ (Nat.pow_pos (by omega))
   omega
  rw [hs]
  refine ⟨?_, hle⟩
  rw [bydB_snoc, i1, bydT, p3, p4, byd_one hG0 hK hG hH p1 p2]
  have e : mkRat (((r.map fun p => x p * G - y p * H).sum : Nat) : Int) (G * 2 ^ m) + mkRat ((x p * G - y p * H : Nat) : Int) (G * 2 ^ m) = mkRat (((r.map fun p => x p * G - y p * H).sum + (x p * G - y p * H) : Nat) : Int) (G * 2 ^ m) := by
   rw [Rat.mkRat_add_mkRat _ _ hden hden, ← Int.add_mul, Rat.mkRat_mul_right hden, Int.natCast_add]
  rw [(op2_txt (f := (· + ·)) (byd_fit hG0 hK hG hH (by rw [Int.natAbs_natCast]; omega)) (byd_fit hG0 hK hG hH (by rw [Int.natAbs_natCast]; omega)) (by show ¬ ovQ (_ + _); rw [e]; exact byd_fit hG0 hK hG hH (by rw [Int.natAbs_natCast]; omega))).1]
  show txQ (_ + _) = _
  rw [e]
end
theorem numB_lateB (k : Nat) : numB k ≠ lateB := fun e => by
 have := zB_late (k : Int)
 rw [zB_nat] at this
 exact this (congrArg (fun b : ByteArray => b.data.toList) e)
def cntK (g : Int → Nat) (n : Nat) (c : List Int) (key : ByteArray) : Nat := if key = lateB then fkR g n c c.length else sumN (fun i => if numB i = key then fkT g n c i else 0) c.length
theorem cntK_late (g : Int → Nat) (n : Nat) (c : List Int) : cntK g n c lateB = fkR g n c c.length := if_pos rfl
theorem cntK_num (g : Int → Nat) (n : Nat) (c : List Int) {i : Nat} (hi : i < c.length) : cntK g n c (numB i) = fkT g n c i := by
 unfold cntK
 rw [if_neg (numB_lateB i), sumN_congr (d := fun j => if j = i then fkT g n c i else 0) (fun j _ => by
  by_cases e : j = i
  ·subst e; rw [if_pos rfl, if_pos rfl]
  ·rw [if_neg e, if_neg (fun h => e (numB_inj h))]), sumN_pick, if_pos hi]
theorem fkW_mem {g : Int → Nat} {n : Nat} {c : List Int} {p : ByteArray × ByteArray} : p ∈ fkW g n c ↔ (∃ k, k < c.length ∧ p = (numB k, dyB (fkT g n c k) (n * c.length))) ∨ p = (lateB, dyB (fkR g n c c.length) (n * c.length)) := by
 unfold fkW fkAll
 rw [List.mem_append, List.mem_map, List.mem_singleton]
 refine or_congr ⟨?_, ?_⟩ Iff.rfl
 ·rintro ⟨k, hk, rfl⟩; exact ⟨k, List.mem_range.1 hk, rfl⟩
 ·rintro ⟨k, hk, rfl⟩; exact ⟨k, List.mem_range.2 hk, rfl⟩
theorem fkW_cnt {g : Int → Nat} {n : Nat} {c : List Int} {p : ByteArray × ByteArray} (h : p ∈ fkW g n c) : p.2 = dyB (cntK g n c p.1) (n * c.length) := by
 rcases fkW_mem.1 h with ⟨k, hk, rfl⟩ | rfl
 ·show _ = dyB (cntK g n c (numB k)) _
  rw [cntK_num g n c hk]
 ·show _ = dyB (cntK g n c lateB) _
  rw [cntK_late]
theorem fkP_mem {g : Int → Nat} {n : Nat} {c : List Int} {p : ByteArray × ByteArray} : p ∈ fkP g n c ↔ p ∈ fkW g n c ∧ p.2 ≠ ⟨#[48]⟩ := by
 unfold fkP notZ
 rw [List.mem_filter]
 simp
theorem fk_val {g : Int → Nat} {n : Nat} {c : List Int} {key : ByteArray} (hk : key = lateB ∨ ∃ k, k < c.length ∧ key = numB k) : valM (sortM (fkP g n c)) key = dyB (cntK g n c key) (n * c.length) := by
 have hin : (key, dyB (cntK g n c key) (n * c.length)) ∈ fkW g n c := by
  rcases hk with rfl | ⟨k, h1, rfl⟩
  ·rw [cntK_late]; exact fkW_mem.2 (.inr rfl)
  ·rw [cntK_num g n c h1]; exact fkW_mem.2 (.inl ⟨k, h1, rfl⟩)
 by_cases h : dyB (cntK g n c key) (n * c.length) = ⟨#[48]⟩
 ·rw [h]
  refine valM_none fun p hp e => ?_
  rw [sortM_mem, fkP_mem] at hp
  have := fkW_cnt hp.1
  rw [e, h] at this
  exact hp.2 this
 ·exact valM_some (sortM_mem.2 (fkP_mem.2 ⟨hin, h⟩)) (sortM_nd (fkP_nd g n c))
theorem fkW_sum (g : Int → Nat) (n : Nat) (c : List Int) (f : ByteArray → Nat) : ((fkW g n c).map fun p => f p.1).sum = sumN (fun i => f (numB i)) c.length + f lateB := by
 unfold fkW
 rw [List.map_append, List.sum_append]
 have : ∀ m, ((fkAll g n c m).map fun p => f p.1).sum = sumN (fun i => f (numB i)) m := by
  intro m
  induction m with
  | zero => rfl
  | succ m ih => rw [fkAll_succ, List.map_append, List.sum_append, ih]; simp [sumN]
 rw [this]
 simp
theorem filter_sum (f : ByteArray → Nat) : ∀ (L : List (ByteArray × ByteArray)), (∀ p ∈ L, notZ p = false → f p.1 = 0) → ((L.filter notZ).map fun p => f p.1).sum = (L.map fun p => f p.1).sum
 | [], _ => rfl
 | p :: r, h => by
  have ih := filter_sum f r (fun q hq => h q (List.mem_cons_of_mem _ hq))
  cases hp : notZ p
  ·rw [List.filter_cons_of_neg (by simp [hp]), ih, List.map_cons, List.sum_cons, h p (List.mem_cons_self ..) hp, Nat.zero_add]
  ·rw [List.filter_cons_of_pos hp, List.map_cons, List.sum_cons, ih, List.map_cons, List.sum_cons]
theorem fd_private {N D n s : Nat} (h : N < D) (hN : 0 < N) {K : Nat} (hK : 0 < K ∧ K ≤ 3000) {c c' : List Int} (hc : c ≠ []) (hl : c.length = c'.length) (hm : n * c.length ≤ 1000) (hlen : c.length < 1000)
 (hG : N ^ s * 2 ^ (n * c.length) < 10 ^ K) (hH : D ^ s * 2 ^ (n * c.length) < 10 ^ K)
 (hs : ∀ (i j : Nat) (a b : Int), i < c.length → c[j]? = some a → c'[j]? = some b → (b - a) - (c'.getD i 0 - c.getD i 0) ≤ (s : Int)) :
 cmB (bydB (txQ (mkRat ((D ^ s : Nat) : Int) (N ^ s))) (sortM (fkP (gV N D false n) n c)) (sortM (fkP (gV N D false n) n c'))) (op2B (· * ·) (txQ (mkRat ((D ^ s : Nat) : Int) (N ^ s))) (valM (sortM (fkP (gV N D false n) n c)) lateB)) ≤ 0 ∧
 valM (sortM (fkP (gV N D false n) n c)) lateB = valM (sortM (fkP (gV N D false n) n c')) lateB := by
 obtain ⟨m, hmm⟩ : ∃ m, n * c.length = m := ⟨_, rfl⟩
 have hgn : ∀ v : Int, v < 0 → gV N D false n v = 0 := fun v hv => gV_one_neg n hv
 have hz : zS n (gV N D false n) ≤ 2 ^ n := by have := gV_all h false n; omega
 have hG0 : N ^ s ≠ 0 := Nat.ne_of_gt (Nat.pow_pos hN)
 have hGH : N ^ s ≤ D ^ s := Nat.pow_le_pow_left (by omega) s
 have hc' : c' ≠ [] := fun e => hc (List.length_eq_zero_iff.1 (by rw [hl, e]; rfl))
 obtain ⟨g, hg⟩ : ∃ g, gV N D false n = g := ⟨_, rfl⟩
 have hpriv := fk_private (n := n) (s := s) h hl hs
 have hall := fkT_all (n := n) hgn hc
 have hall' := fkT_all (n := n) hgn hc'
 rw [← hl] at hall'
 have hle1 := fun i (hi : i < c.length) => fkT_one hgn hz hi
 have hle2 := fun i (hi : i < c'.length) => fkT_one hgn hz hi
 have hsum := fkT_le hgn hz (c := c') (M := c'.length) (Nat.le_refl _)
 rw [hg] at hpriv hall hall' hle1 hle2 hsum hgn hz ⊢
 rw [hmm] at hpriv hm hG hH hle1
 rw [← hl, hmm] at hle2 hsum
 generalize D ^ s = H at *
 generalize N ^ s = G at *
 have hR : fkR g n c c.length = fkR g n c' c'.length := by
  unfold fkR
  rw [hall, ← hl, hall']
 have hRle : fkR g n c c.length ≤ 2 ^ m := by unfold fkR; rw [hmm]; exact Nat.sub_le _ _
 have vc : ∀ key, (key = lateB ∨ ∃ k, k < c.length ∧ key = numB k) → cntK g n c key ≤ 2 ^ m ∧ cntK g n c' key ≤ 2 ^ m ∧ valM (sortM (fkP g n c)) key = dyB (cntK g n c key) m ∧ valM (sortM (fkP g n c')) key = dyB (cntK g n c' key) m := fun key hk => by
  have e1 := fk_val (g := g) (n := n) (c := c) hk
  have e2 := fk_val (g := g) (n := n) (c := c') (key := key) (by rwa [← hl])
  rw [← hl] at e2
  rw [hmm] at e1 e2
  refine ⟨?_, ?_, e1, e2⟩
  ·rcases hk with rfl | ⟨k, h1, rfl⟩
   ·rw [cntK_late]; exact hRle
   ·rw [cntK_num g n c h1]; have := hle1 k h1; omega
  ·rcases hk with rfl | ⟨k, h1, rfl⟩
   ·rw [cntK_late, ← hR]; exact hRle
   ·rw [cntK_num g n c' (by omega)]; have := hle2 k h1; omega
 have key : ∀ p ∈ fkW g n c, p.1 = lateB ∨ ∃ k, k < c.length ∧ p.1 = numB k := fun p hp => by
  rcases fkW_mem.1 hp with ⟨k, hk, rfl⟩ | rfl
  ·exact .inr ⟨k, hk, rfl⟩
  ·exact .inl rfl
 obtain ⟨l1, l2, l3, l4⟩ := vc lateB (.inl rfl)
 rw [cntK_late] at l1 l3
 rw [cntK_late, ← hR] at l2 l4
 refine ⟨?_, by rw [l3, l4]⟩
 have hlenW : (sortM (fkP g n c)).length ≤ 1000 := by
  have e1 : (sortM (fkP g n c)).length = (fkP g n c).length := (List.mergeSort_perm _ _).length_eq
  have e2 : (fkP g n c).length ≤ (fkW g n c).length := List.length_filter_le _ _
  have e3 : (fkW g n c).length = c.length + 1 := by simp [fkW, fkAll]
  omega
 obtain ⟨b1, b2⟩ := byd_all (G := G) (H := H) (m := m) (K := K) hG0 hK hG hH (M := sortM (fkP g n c')) (x := fun p => cntK g n c p.1) (y := fun p => cntK g n c' p.1) (L := sortM (fkP g n c)) hlenW (fun p hp => by
  rw [sortM_mem, fkP_mem] at hp
  obtain ⟨v1, v2, -, v4⟩ := vc p.1 (key p hp.1)
  have := fkW_cnt hp.1
  rw [hmm] at this
  exact ⟨v1, v2, this, v4⟩)
 have hS : ((sortM (fkP g n c)).map fun p => cntK g n c p.1 * G - cntK g n c' p.1 * H).sum = sumN (fun i => fkT g n c i * G - fkT g n c' i * H) c.length := by
  have hp : (sortM (fkP g n c)).Perm (fkP g n c) := List.mergeSort_perm _ _
  rw [(hp.map _).sum_nat]
  show ((fkP g n c).map fun p => (fun k => cntK g n c k * G - cntK g n c' k * H) p.1).sum = _
  unfold fkP
  rw [filter_sum (fun k => cntK g n c k * G - cntK g n c' k * H) _ (fun p hp hz => by
   have e := fkW_cnt hp
   have hz' : p.2 = ⟨#[48]⟩ := by unfold notZ at hz; simpa using hz
   rw [hz', hmm] at e
   have := (dy_eq_zero (vc p.1 (key p hp)).1 hm).1 e.symm
   show cntK g n c p.1 * G - _ = 0
   rw [this, Nat.zero_mul, Nat.zero_sub])]
  rw [fkW_sum g n c (fun k => cntK g n c k * G - cntK g n c' k * H)]
  show sumN (fun i => cntK g n c (numB i) * G - cntK g n c' (numB i) * H) c.length + (cntK g n c lateB * G - cntK g n c' lateB * H) = _
  have e0 : cntK g n c lateB * G - cntK g n c' lateB * H = 0 := by
   rw [cntK_late, cntK_late, ← hR]
   exact Nat.sub_eq_zero_of_le (Nat.mul_le_mul_left _ hGH)
  rw [e0, Nat.add_zero]
  exact sumN_congr fun i hi => by rw [cntK_num g n c hi, cntK_num g n c' (by omega)]
 rw [b1, l3, hS]
 have hfin : sumN (fun i => fkT g n c i * G - fkT g n c' i * H) c.length ≤ fkR g n c c.length * H := by
  rw [hR]
  unfold fkR
  rw [← hl, hmm, Nat.sub_mul]
  omega
 obtain ⟨f1, f2⟩ := byd_dy hG0 hK hG hH l1
 have hden := byd_den hG0 hK hG hH
 have hKK : (10 : Nat) ^ K ≤ 10 ^ (K + 4) := Nat.pow_le_pow_right (by omega) (by omega)
 have hyH : fkR g n c c.length * H < 10 ^ K := Nat.lt_of_le_of_lt (by rw [Nat.mul_comm]; exact Nat.mul_le_mul_left H l1) hH
 have e1 : mkRat (H : Int) G * dyQ (fkR g n c c.length) m = mkRat ((fkR g n c c.length * H : Nat) : Int) (G * 2 ^ m) := by
  unfold dyQ
  rw [Rat.mkRat_mul_mkRat, Int.natCast_mul, Int.mul_comm]
 have f3 := byd_fit hG0 hK hG hH (z := ((fkR g n c c.length * H : Nat) : Int)) (by rw [Int.natAbs_natCast]; omega)
 have f4 := byd_fit hG0 hK hG hH (z := ((sumN (fun i => fkT g n c i * G - fkT g n c' i * H) c.length : Nat) : Int)) (by rw [Int.natAbs_natCast]; omega)
 rw [f1, (op2_txt (f := (· * ·)) (byd_fitF hG0 hK hG hH) f2 (by show ¬ ovQ (_ * _); rw [e1]; exact f3)).1]
 show cmB _ (txQ (_ * _)) ≤ 0
 rw [e1, (cm_txt f4 f3).1]
 have e3 : mkRat ((sumN (fun i => fkT g n c i * G - fkT g n c' i * H) c.length : Nat) : Int) (G * 2 ^ m) - mkRat ((fkR g n c c.length * H : Nat) : Int) (G * 2 ^ m) = mkRat (((sumN (fun i => fkT g n c i * G - fkT g n c' i * H) c.length : Nat) : Int) - ((fkR g n c c.length * H : Nat) : Int)) (G * 2 ^ m) := by
  rw [Rat.sub_eq_add_neg, Rat.neg_mkRat, Rat.mkRat_add_mkRat _ _ hden hden, ← Int.add_mul, Rat.mkRat_mul_right hden]
  rfl
 unfold ordQ
 rw [e3, sgnQ_mk hden]
 unfold sgnZ
 split
 ·exact Int.le_refl _
 ·split
  ·omega
  ·omega
open Go.Shelf
theorem ordN_le {a b : Nat} : decide (ordN a b ≤ 0) = decide (a ≤ b) := by
 unfold ordN
 split
 ·simp; omega
 ·split <;> simp <;> omega
theorem c_sides (w : World) (n d : ByteArray) :
 Calls Tryz.prog 299 #[.string n, .string d] w fun e w' => e = .returned (.func (.func 304) #[] #[.pointer (some ⟨w.heap.size, 0, none⟩), .pointer (some ⟨w.heap.size + 1, 0, none⟩)]) ∧ w' = (w.alloc (.cells #[.string n] 22)).alloc (.cells #[.string d] 22) := by
 go_enter Tryz.func299, Tryz.ntmps299
 go_wp2_with fail
 go_ret
 exact ⟨rfl, rfl⟩
theorem c_side (w : World) (bn bd N D K T : Nat) (hn : Blk w bn #[.string (numB N)] 22) (hd : Blk w bd #[.string (numB D)] 22) (hf : Fits N D K T) (hL : Lay w) :
 Calls Tryz.prog 304 #[.string (numB K), .string (numB T), .pointer (some ⟨bn, 0, none⟩), .pointer (some ⟨bd, 0, none⟩)] w fun e w' => e = .returned (.tuple #[.int .i64 (sdV N D K T : Nat), .bool (sdB N D K T)]) ∧ Below w.heap.size w w' := by
 have dN := numB_small hf.n (by decide) (by decide)
 have dD := numB_small hf.d (by decide) (by decide)
 have dK := numB_small hf.k (by decide) (by decide)
 have dT := numB_small hf.t (by decide) (by decide)
 have f1 := fit_mul hf.n hf.t
 have f2 := fit_mul hf.k hf.d
 have dP := numB_small f1 (by decide) (by decide)
 have dQ := numB_small f2 (by decide) (by decide)
 have dS := numB_small (fit_add f2 (fit_up hf.d (by decide))) (by decide) (by decide)
 have T1 := fun V hV => hid (c_times V (numB N) (numB T) (numB_sz dN) (numB_sz dT) hV)
 have T2 := fun V hV => hid (c_times V (numB K) (numB D) (numB_sz dK) (numB_sz dD) hV)
 have T3 := fun V hV => hid (c_plus V (numB (K * D)) (numB D) (numB_sz dQ) (numB_sz dD) hV)
 have C1 := fun V => hid (n_Cmp V (numB (N * T)) (numB (K * D)) (numB_sz dP) (numB_sz dQ))
 have C2 := fun V => hid (n_Cmp V (numB (K * D + D)) (numB (N * T)) (numB_sz dS) (numB_sz dP))
 rw [natB_num dN dT dP] at T1
 rw [natB_num dK dD dQ] at T2
 rw [natB_num dQ dD dS] at T3
 rw [cmpN_num dP dQ] at C1
 rw [cmpN_num dS dP] at C2
 have HL := hid hL
 have HN := hid hn; have HD := hid hd
 have c0 := hn.cell 0
 have c1 := hd.cell 0
 simp only [List.getElem?_toArray, List.getElem?_cons_zero] at c0 c1
 have hSV : sdV N D K T = if N * T ≤ K * D then 0 else 1 := rfl
 have hSB : sdB N D K T = (decide (N * T ≤ K * D) || decide (K * D + D ≤ N * T)) := rfl
 rw [hSV, hSB]
 obtain ⟨P, hP⟩ : ∃ P, N * T = P := ⟨_, rfl⟩
 obtain ⟨Q, hQ⟩ : ∃ Q, K * D = Q := ⟨_, rfl⟩
 rw [hP] at T1 C1 C2 ⊢
 rw [hQ] at T2 T3 C1 C2 ⊢
 obtain ⟨sn, hsn⟩ : ∃ s, numB N = s := ⟨_, rfl⟩
 obtain ⟨sd, hsd⟩ : ∃ s, numB D = s := ⟨_, rfl⟩
 obtain ⟨sk, hsk⟩ : ∃ s, numB K = s := ⟨_, rfl⟩
 obtain ⟨st, hst⟩ : ∃ s, numB T = s := ⟨_, rfl⟩
 rw [hsn] at T1 c0 HN
 rw [hsd] at T2 T3 c1 HD
 rw [hsk] at T2 ⊢
 rw [hst] at T1 ⊢
 clear hsn hsd hsk hst hP hQ hSV hSB dN dD dK dT f1 f2 dP dQ dS hf hL hn hd
 go_enter Tryz.func304, Tryz.ntmps304
 go_wp2_with fail
 refine held_plain [0, 1, 3, 4] 4 (fun W' => W'.cell? ⟨bn, 0, none⟩ = some (.string sn) ∧ W'.cell? ⟨bd, 0, none⟩ = some (.string sd)) (by kernel_rfl) (by kernel_rfl) (by kernel_rfl) (by kernel_rfl) ⟨c0, c1⟩ ?_
 iterate 4
  refine ⟨_, rfl, ?_⟩
  apply Exists.intro
  refine ⟨.inl ⟨by rfl, ?_⟩, ?_⟩
  ·(intro W' hW'
    obtain ⟨q1, q2⟩ := hW'
    go_simp
    try (with_reducible rfl))
  simp only [Act.put, List.setIfInBounds_toArray, List.set_cons_zero, List.set_cons_succ]
 refine held_one (i := 2) (by kernel_rfl) (by rfl) (by rfl) ?_
 go_wp2_with fail
 refine (T1 _ (HL.out.call (Below.refl _ _).drew)).out.mono ?_; rintro e w1 ⟨rfl, hb1⟩
 have y1 := hid (show Below w.heap.size w w1 from (Below.refl _ _).drew.trans hb1)
 have N1 := hid (HN.out.call y1.out); have D1 := hid (HD.out.call y1.out)
 clear hb1
 go_wp2_with fail
 refine ⟨⟨N1.out.cell 0, D1.out.cell 0⟩, ?_⟩
 refine held_one (i := 5) (by kernel_rfl) (by rfl) (by rfl) ?_
 go_wp2_with fail
 refine (T2 _ (HL.out.call y1.out)).out.mono ?_; rintro e w2 ⟨rfl, hb2⟩
 have y2 := hid (bnext y1.out hb2)
 have N2 := hid (N1.out.call hb2); have D2 := hid (D1.out.call hb2)
 clear hb2
 go_wp2_with fail
 refine ⟨⟨N2.out.cell 0, D2.out.cell 0⟩, ?_⟩
 refine held_one (i := 6) (by kernel_rfl) (by rfl) (by rfl) ?_
 go_wp2_with fail
 refine ⟨⟨N2.out.cell 0, D2.out.cell 0⟩, ?_⟩
 refine held_one (i := 7) (by kernel_rfl) (by rfl) (by rfl) ?_
 go_wp2_with fail
 refine ⟨⟨N2.out.cell 0, D2.out.cell 0⟩, ?_⟩
 refine wpAnyH_done (by kernel_rfl) ?_ _
 simp only [Only]
 go_wp2_with fail
 refine (C1 _).out.mono ?_; rintro e w3 ⟨rfl, hb3⟩
 have y3 := hid (bnext y2.out hb3)
 have D3 := hid (D2.out.call hb3)
 clear hb3
 have o1 := ordN_le (a := P) (b := Q)
 obtain ⟨x1, hx1⟩ : ∃ x, ordN P Q = x := ⟨_, rfl⟩
 rw [hx1] at o1 ⊢
 clear hx1
 by_cases h : P ≤ Q
 ·simp only [h, decide_true, if_true, Bool.true_or] at o1 ⊢
  go_wp2_with fail
  go_ret2
  exact ⟨rfl, y3.out⟩
 ·have o2 := ordN_le (a := Q + D) (b := P)
  have d3 := D3.out.cell 0
  simp only [List.getElem?_toArray, List.getElem?_cons_zero] at d3
  obtain ⟨x2, hx2⟩ : ∃ x, ordN (Q + D) P = x := ⟨_, rfl⟩
  obtain ⟨r, hr⟩ : ∃ r, decide (Q + D ≤ P) = r := ⟨_, rfl⟩
  rw [hx2] at o2 C2
  rw [hr] at o2
  simp only [h, decide_false, if_false, Bool.false_or] at o1 ⊢
  clear hx2
  go_wp2_with fail
  refine (T3 _ (HL.out.call y3.out)).out.mono ?_; rintro e w4 ⟨rfl, hb4⟩
  have y4 := hid (bnext y3.out hb4)
  clear hb4
  go_wp2_with fail
  refine (C2 _).out.mono ?_; rintro e w5 ⟨rfl, hb5⟩
  have y5 := hid (bnext y4.out hb5)
  clear hb5
  go_wp2_with fail
  go_ret2
  exact ⟨rfl, y5.out⟩
def tossC (b k t : ByteArray) (bn bd : Nat) (dn : Bool) (v u : Int) : Array Value :=
 #[.string b, .string k, .string t, .func (.func 304) #[] #[.pointer (some ⟨bn, 0, none⟩), .pointer (some ⟨bd, 0, none⟩)], .bool dn, .int .i64 v, .int .i64 u]
structure Toss (w : World) (g bn bd : Nat) (b : ByteArray) (N D K T u : Nat) : Prop where
 blk : Blk w g (tossC b (numB K) (numB T) bn bd false 0 u) 314
 num : Blk w bn #[.string (numB N)] 22
 den : Blk w bd #[.string (numB D)] 22
 ln : bn < g
 ld : bd < g
theorem c_look (w : World) (g bn bd : Nat) (b : ByteArray) (N D K T u : Nat) (ht : Toss w g bn bd b N D K T u) (hf : Fits N D K T) (hL : Lay w) (hs : b.size ≤ 100000) (hu : u ≤ b.size) :
 Calls Tryz.prog 300 #[.pointer (some ⟨g, 0, none⟩)] w fun e w' =>
  Below g w w' ∧
  ((sdB N D K T = true ∧ e = .returned .nilFunc ∧ Blk w' g (tossC b (numB K) (numB T) bn bd true (sdV N D K T : Nat) u) 314) ∨
   (sdB N D K T = false ∧ u = b.size ∧ e = .returned .nilFunc ∧ Toss w' g bn bd b N D K T u) ∨
   (sdB N D K T = false ∧ u < b.size ∧ e = .returned (.func (.func 307) #[.pointer (some ⟨g, 0, none⟩)] #[]) ∧ Toss w' g bn bd b N D K T u)) := by
 have HB := hid ht.blk
 have HN := hid ht.num
 have HD := hid ht.den
 have LN := hid ht.ln
 have LD := hid ht.ld
 have LG := hid (Blk.lt ht.blk)
 have HF := hid hf; have HL := hid hL; have HS := hid hs; have HU := hid hu
 have c0 : w.cell? ⟨g, 0, none⟩ = some (.string b) := ht.blk.cell 0
 have c1 : w.cell? ⟨g, 1, none⟩ = some (.string (numB K)) := ht.blk.cell 1
 have c2 : w.cell? ⟨g, 2, none⟩ = some (.string (numB T)) := ht.blk.cell 2
 have c3 : w.cell? ⟨g, 3, none⟩ = some (.func (.func 304) #[] #[.pointer (some ⟨bn, 0, none⟩), .pointer (some ⟨bd, 0, none⟩)]) := ht.blk.cell 3
 have e51 : ∀ args w, (callFunc 304 args).run Tryz.prog w = .ok (.enter 304 args) w := enters_of Tryz.func304 (by kernel_rfl) rfl
 obtain ⟨sk, hsk⟩ : ∃ s, numB K = s := ⟨_, rfl⟩
 obtain ⟨st, hst⟩ : ∃ s, numB T = s := ⟨_, rfl⟩
 have HK := hid hsk; have HT := hid hst
 rw [hsk] at c1
 rw [hst] at c2
 have CS := hid (c_side w.drew bn bd N D K T ht.num ht.den hf (hL.call (Below.refl _ _).drew))
 rw [hsk, hst] at CS
 obtain ⟨xv, hxv⟩ : ∃ x, sdV N D K T = x := ⟨_, rfl⟩
 obtain ⟨xb, hxb⟩ : ∃ x, sdB N D K T = x := ⟨_, rfl⟩
 rw [hxv, hxb] at CS
 rw [hxv, hxb]
 clear hsk hst ht hf hL hs hu hxv hxb
 go_enter Tryz.func300, Tryz.ntmps300
 go_wp2_with fail
 refine held_plain [0, 1, 2, 3, 4, 5, 6, 7, 8, 9, 10, 11] 6 (fun W' => (W'.cell? ⟨g, 1, none⟩ = some (.string sk) ∧ W'.cell? ⟨g, 2, none⟩ = some (.string st)) ∧ W'.cell? ⟨g, 3, none⟩ = some (.func (.func 304) #[] #[.pointer (some ⟨bn, 0, none⟩), .pointer (some ⟨bd, 0, none⟩)])) (by kernel_rfl) (by kernel_rfl) (by kernel_rfl) (by kernel_rfl) ⟨⟨c1, c2⟩, c3⟩ ?_
 iterate 12
  refine ⟨_, rfl, ?_⟩
  apply Exists.intro
  refine ⟨.inl ⟨by rfl, ?_⟩, ?_⟩
  ·(intro W' hW'
    obtain ⟨⟨q1, q2⟩, q3⟩ := hW'
    go_simp
    try (with_reducible rfl))
  (dsimp only [Act.put]; try simp only [List.setIfInBounds_toArray, List.set_cons_zero, List.set_cons_succ])
 refine held_one (i := 12) (by kernel_rfl) (by rfl) (by rfl) ?_
 go_wp2_with fail
 refine CS.out.mono ?_; rintro e w1 ⟨rfl, hb1⟩
 have y1 := hid (show Below w.heap.size w w1 from (Below.refl _ _).drew.trans hb1)
 have B1 := hid (HB.out.call y1.out); have N1 := hid (HN.out.call y1.out); have D1 := hid (HD.out.call y1.out)
 have d0 : w1.cell? ⟨g, 0, none⟩ = some (.string b) := B1.out.cell 0
 have d1 : w1.cell? ⟨g, 1, none⟩ = some (.string (numB K)) := B1.out.cell 1
 have d2 : w1.cell? ⟨g, 2, none⟩ = some (.string (numB T)) := B1.out.cell 2
 have d3 : w1.cell? ⟨g, 3, none⟩ = some (.func (.func 304) #[] #[.pointer (some ⟨bn, 0, none⟩), .pointer (some ⟨bd, 0, none⟩)]) := B1.out.cell 3
 have d4 : w1.cell? ⟨g, 4, none⟩ = some (.bool false) := B1.out.cell 4
 have d5 : w1.cell? ⟨g, 5, none⟩ = some (.int .i64 0) := B1.out.cell 5
 have d6 : w1.cell? ⟨g, 6, none⟩ = some (.int .i64 u) := B1.out.cell 6
 have f4 := B1.out.free 4
 have f5 := B1.out.free 5
 rw [HK.out] at d1
 rw [HT.out] at d2
 clear hb1 c0 c1 c2 c3
 go_wp2_with fail
 refine ⟨⟨⟨d1, d2⟩, d3⟩, ?_⟩
 refine held_more (is := [13, 14, 15, 16, 17]) (g := 0) (by kernel_rfl) rfl ⟨⟨d1, d2⟩, d3⟩ (by kernel_rfl) ?_
 iterate 5
  refine ⟨_, rfl, ?_⟩
  apply Exists.intro
  refine ⟨.inl ⟨by rfl, ?_⟩, ?_⟩
  ·(intro W' hW'
    clear hW'
    go_simp
    try (with_reducible rfl))
  (dsimp only [Act.put]; try simp only [List.setIfInBounds_toArray, List.set_cons_zero, List.set_cons_succ])
 refine wpAnyH_done (by kernel_rfl) ?_ _
 simp only [Only]
 cases xb
 ·go_wp2_with fail
  refine held_plain [0, 1, 2, 3, 4, 5, 6, 7, 8, 9, 10] 0 (fun W' => W'.cell? ⟨g, 0, none⟩ = some (.string b) ∧ W'.cell? ⟨g, 6, none⟩ = some (.int .i64 u)) (by kernel_rfl) (by kernel_rfl) (by kernel_rfl) (by kernel_rfl) ⟨d0, d6⟩ ?_
  iterate 11
   refine ⟨_, rfl, ?_⟩
   apply Exists.intro
   refine ⟨.inl ⟨by rfl, ?_⟩, ?_⟩
   ·(intro W' hW'
     obtain ⟨q1, q2⟩ := hW'
     go_simp
     try (with_reducible rfl))
   (dsimp only [Act.put]; try simp only [List.setIfInBounds_toArray, List.set_cons_zero, List.set_cons_succ])
  refine wpAnyH_done (by kernel_rfl) ?_ _
  simp only [Only]
  have y2 := hid y1.out.drew
  have T2 : Hid (Toss w1.drew g bn bd b N D K T u) := ⟨B1.out, N1.out, D1.out, LN.out, LD.out⟩
  obtain ⟨r, hr⟩ : ∃ r, ((u : Int) == (b.size : Int)) = r := ⟨_, rfl⟩
  rw [hr]
  have HR := hid hr
  clear hr d0 d1 d2 d3 d4 d5 d6 f4 f5 e51
  cases r
  ·have HU2 := hid (show u < b.size from by have h1 := HU.out; have h2 := HR.out; simp at h2; omega)
   go_wp2_with fail
   go_ret
   exact ⟨y2.out.mono (Nat.le_of_lt LG.out), .inr ⟨HU2.out, rfl, T2.out⟩⟩
  ·have HU2 := hid (show u = b.size from by have h2 := HR.out; simp at h2; omega)
   go_wp2_with fail
   go_ret
   exact ⟨y2.out.mono (Nat.le_of_lt LG.out), .inl ⟨HU2.out, rfl, T2.out⟩⟩
 ·go_wp2_with fail
  go_ret
  have r1 := (B1.out.set 4 (.bool true)).set 5 (.int .i64 xv)
  refine ⟨?_, ⟨rfl, ?_⟩⟩
  ·exact ((y1.out.mono (Nat.le_of_lt LG.out)).setCell (Nat.le_refl _) _).setCell (Nat.le_refl _) _
  ·simpa [tossC] using r1
end Go.Proofs.YtckihjfkafdncaaGreatDoor
namespace Go.Proofs.YtckihjfkafdncaaGreatDoor
open Go.RowKit
variable {P : Program} {Q : Exit → Act → World → Prop}
def ThenL (P : Program) (ops : Array Oper) (Q : Exit → Act → World → Prop) (rest : List Oper) : Exit → Act → World → Prop
 | .normal, a, w => wpList P ops Q rest a w
 | e, a, w => Q e a w
theorem only_any {md : Region.Mode} {ops : Array Oper} : ∀ (fuel : Nat) (listed : Array Bool) (a : Act) (w : World), wpAny P md ops (Only Q) fuel listed a w → wpAny P md ops Q fuel listed a w := by
 intro fuel
 induction fuel with
 | zero => exact fun _ _ _ h => h
 | succ fuel ih =>
  rintro listed a w ⟨h1, h2⟩
  refine ⟨h1, fun i hi => ?_⟩
  have h := h2 i hi
  unfold wpOp at h ⊢
  split at h
  ·rename_i ho
   exact ih _ _ _ h
  ·rename_i o ho
   split at h
   ·rename_i hw
    rw [if_pos hw]
    rcases h with h | ⟨_, a', w', h⟩
    ·exact .inl (wp_turn (fun a w h => ih _ _ _ h) (fun _ _ _ h => h.elim) (fun ⟨_, _, h⟩ => h.elim) h)
    ·exact h.elim
   ·rename_i hw
    rw [if_neg hw]
    exact ih _ _ _ h
theorem one_last {ops : Array Oper} {oz : Oper} {Q' : Exit → Act → World → Prop} {a : Act} {w : World} (hB : splitB ops oz = true)
 (hP : ∀ c a w, Q' (.panic c) a w → Q (.panic c) a w) (hL : LetsOut Q' → LetsOut Q) (hN : ∀ a w, Q' .normal a w → oz.wp P a w (fun a w => Q .normal a w) Q ∨ (oz.asks P a w ∧ LetsOut Q))
 (h : wpAny P .any ops Q' ops.size (Array.replicate ops.size false) a w) : wpAny P .any (ops.push oz) Q (ops.push oz).size (Array.replicate (ops.push oz).size false) a w := by
 simp only [splitB, Bool.and_eq_true, List.all_eq_true, List.any_eq_true, List.mem_range, decide_eq_true_eq, Option.isNone_iff_eq_none, Array.mem_toList_iff] at hB
 obtain ⟨⟨⟨⟨h1, h2⟩, h3⟩, h4⟩, h5⟩ := hB
 have hl := wpAny_last (P := P) (md := .any) (ops := ops) (oz := oz) (fun i o ho => h1 o (Array.mem_of_getElem? ho)) h2 (fun e he _ => h3 e he)
  (fun i hi => by
   obtain ⟨e, he, hb, hon⟩ := h4 i hi
   refine ⟨e, he, hb, ?_⟩
   simp only [Bool.or_eq_true, beq_iff_eq] at hon
   refine hon.imp (fun h => h) fun hx => ?_
   split at hx
   ·rename_i o ho
    simp only [List.any_eq_true, Bool.and_eq_true, beq_iff_eq, Array.mem_toList_iff] at hx
    obtain ⟨f, hf, hfb, hfo⟩ := hx
    exact ⟨o, ho, f, hf, hfb, hfo⟩
   ·cases hx)
  (fun i o ho e he _ => by
   have := h5 i (Array.getElem?_eq_some_iff.1 ho).1
   rw [ho] at this
   simp only [List.all_eq_true, Array.mem_toList_iff, decide_eq_true_eq] at this
   exact this e he) hP hL hN ops.size (Array.replicate ops.size false) a w (by simp) (fun j o _ hj => by simp [Array.getD] at hj) h
 have hr : Array.replicate (ops.push oz).size false = (Array.replicate ops.size false).push false := by
  rw [Array.size_push]
  exact Array.replicate_succ
 rw [hr, Array.size_push]
 exact hl
def lastsB (l : List Oper) : Nat → Nat → Bool
 | 0, _ => true
 | k + 1, n => (match l[n]? with | some oz => splitB (l.take n).toArray oz | none => false) && lastsB l k (n + 1)
theorem any_lasts (l : List Oper) {a : Act} {w : World} : ∀ (k n : Nat), n + k = l.length → lastsB l k n = true →
 wpAny P .any (l.take n).toArray (ThenL P l.toArray Q (l.drop n)) (l.take n).toArray.size (Array.replicate (l.take n).toArray.size false) a w →
 wpAny P .any l.toArray Q l.toArray.size (Array.replicate l.toArray.size false) a w
 | 0, n, hn, _, h => by
  have e1 : l.take n = l := List.take_of_length_le (by omega)
  have e2 : l.drop n = [] := List.drop_of_length_le (by omega)
  have e3 : ThenL P l.toArray Q [] = Q := by
   funext e a w
   cases e <;> simp [ThenL, wpList]
  rw [e1, e2, e3] at h
  exact h
 | k + 1, n, hn, hB, h => by
  simp only [lastsB, Bool.and_eq_true] at hB
  obtain ⟨h1, h2⟩ := hB
  have hlt : n < l.length := by omega
  rw [List.getElem?_eq_getElem hlt] at h1
  have e1 : l.take (n + 1) = l.take n ++ [l[n]] := List.take_succ_eq_append_getElem hlt
  have e2 : l.drop n = l[n] :: l.drop (n + 1) := List.drop_eq_getElem_cons hlt
  refine any_lasts l k (n + 1) (by omega) h2 ?_
  have e3 : (l.take (n + 1)).toArray = (l.take n).toArray.push l[n] := by rw [e1]; simp
  rw [e3]
  have hgz : l[n].guard = none := by
   simp only [splitB, Bool.and_eq_true, Option.isNone_iff_eq_none] at h1
   exact h1.1.1.1.2
  refine one_last h1 (Q' := ThenL P l.toArray Q (l.drop n)) (fun _ _ _ h => h) (fun ⟨a, w, h⟩ => ⟨a, w, h⟩) (fun a w hq => ?_) h
  have hq' : wpList P l.toArray Q (l.drop n) a w := hq
  rw [e2] at hq'
  unfold wpList at hq'
  have hw : Region.wanted l[n] (yielded l.toArray a.tmps) = true := by simp [Region.wanted, hgz]
  rw [if_pos hw] at hq'
  rcases hq' with hq' | ⟨h3, h4⟩
  ·exact .inl (wp_turn (fun _ _ h => h) (fun _ _ _ h => h) (fun ⟨a, w, h⟩ => ⟨a, w, h⟩) hq')
  ·exact .inr ⟨h3, by obtain ⟨a, w, h⟩ := h4; exact ⟨a, w, h⟩⟩
theorem held_lasts {id : Nat} {a : Act} {w : World} {l : List Oper} (n k : Nat) (is : List Nat) (g : Nat) (S : World → Prop) (hm : P.follows .mixedOrders = true) (hk : n + k = l.length) (hlast : lastsB l k n = true) (hsel : Region.noSelect (l.take n).toArray = true) (hg : g + is.length = (l.take n).toArray.size) (hB : pickB .any (l.take n).toArray is (Array.replicate (l.take n).toArray.size false) = true) (hS : S w.drew)
 (h : wpPick P (l.take n) S (fun a' => wpAnyH P .any (l.take n).toArray (Only (ThenL P l.toArray Q (l.drop n))) S g (setL is (Array.replicate (l.take n).toArray.size false)) a' w.drew) is a) : (Code.region id l.toArray true).wp P Q a w := by
 refine wp_region_any hm (any_lasts l k n hk hlast ?_)
 have h2 := held_pick (P := P) (md := .any) (Q := ThenL P l.toArray Q (l.drop n)) (S := S) hsel (g := g) hS is (Array.replicate (l.take n).toArray.size false) a hB h
 rw [hg] at h2
 exact only_any _ _ _ _ (wpAny_of_held (S := S) _ _ _ _ h2)
end Go.Proofs.YtckihjfkafdncaaGreatDoor
namespace Go.Proofs.YtckihjfkafdncaaGreatDoor
open Go.RowKit
variable {P : Program} {Q : Exit → Act → World → Prop} {md : Region.Mode} {ops : Array Oper} {oz : Oper}
inductive Dep (md : Region.Mode) (ops : Array Oper) (oz : Oper) : Nat → Prop
 | here {e : Edge} : e ∈ oz.after → Region.binds md e = true → Dep md ops oz e.on
 | step {i : Nat} {o : Oper} {f : Edge} : Dep md ops oz i → ops[i]? = some o → f ∈ o.after → Region.binds md f = true → Dep md ops oz f.on
theorem Dep.on {listed : Array Bool} (hc : Closed md ops listed) (h : ∀ e ∈ oz.after, Region.binds md e = true → listed.getD e.on false = true) {i : Nat} (hd : Dep md ops oz i) : listed.getD i false = true := by
 induction hd with
 | here he hb => exact h _ he hb
 | step _ ho hf hb ih => exact hc _ _ ho ih _ hf hb
theorem ready_push_some2 {L0 : List Nat} (hz : ∀ e ∈ oz.after, Region.binds md e = true → e.on < ops.size) (hz2 : ∀ i, i < ops.size → i ∈ L0 ∨ Dep md ops oz i) (hfwd : ∀ i o, ops[i]? = some o → ∀ e ∈ o.after, Region.binds md e = true → e.on < i) {listed : Array Bool} (hs : listed.size = ops.size) (hcl : Closed md ops listed) (h0L : ∀ i ∈ L0, listed.getD i false = true) (hn : ¬ AllOn ops.size listed) :
 ∀ j, j ∈ Region.ready md (ops.push oz) (listed.push false) → j ∈ Region.ready md ops listed := by
 intro j hj
 rw [mem_ready] at hj ⊢
 obtain ⟨h0, o, ho, hall⟩ := hj
 have hlt : j < ops.size + 1 := by have := (Array.getElem?_eq_some_iff.1 ho).1; simpa using this
 by_cases hj' : j = ops.size
 ·subst hj'
  have : o = oz := by simpa using ho.symm
  subst this
  refine absurd (fun i hi => ?_) hn
  rcases hz2 i hi with h | h
  ·exact h0L i h
  ·refine Dep.on hcl (fun e he hb => ?_) h
   have h1 := hall e he hb
   have h2 := hz e he hb
   rwa [getD_push_lt (by omega)] at h1
 ·have hjl : j < ops.size := by omega
  rw [Array.getElem?_push_lt hjl] at ho
  rw [getD_push_lt (by omega)] at h0
  refine ⟨h0, o, by rw [Array.getElem?_eq_getElem hjl]; exact ho, fun e he hb => ?_⟩
  have h1 := hall e he hb
  have h2 := hfwd j o (by rw [Array.getElem?_eq_getElem hjl]; exact ho) e he hb
  rwa [getD_push_lt (by omega)] at h1
theorem wpAny_last2 {Q' : Exit → Act → World → Prop} {L0 : List Nat} (hgd : ∀ (i : Nat) (o : Oper), ops[i]? = some o → o.guard = none) (hgz : oz.guard = none)
 (hz : ∀ e ∈ oz.after, Region.binds md e = true → e.on < ops.size) (hz2 : ∀ i, i < ops.size → i ∈ L0 ∨ Dep md ops oz i)
 (hfwd : ∀ i o, ops[i]? = some o → ∀ e ∈ o.after, Region.binds md e = true → e.on < i)
 (hP : ∀ c a w, Q' (.panic c) a w → Q (.panic c) a w) (hL : LetsOut Q' → LetsOut Q) (hN : ∀ a w, Q' .normal a w → oz.wp P a w (fun a w => Q .normal a w) Q ∨ (oz.asks P a w ∧ LetsOut Q)) :
 ∀ (fuel : Nat) (listed : Array Bool) (a : Act) (w : World), listed.size = ops.size → Closed md ops listed → (∀ i ∈ L0, listed.getD i false = true) → wpAny P md ops Q' fuel listed a w → wpAny P md (ops.push oz) Q (fuel + 1) (listed.push false) a w := by
 have lastStep : ∀ (fuel : Nat) (listed : Array Bool) (a : Act) (w : World), listed.size = ops.size → AllOn ops.size listed → Q' .normal a w → wpAny P md (ops.push oz) Q (fuel + 1) (listed.push false) a w := by
  intro fuel listed a w hs hall hq
  have hmem : ops.size ∈ Region.ready md (ops.push oz) (listed.push false) := by
   rw [mem_ready]
   refine ⟨by rw [← hs]; simp [Array.getD], oz, by simp, fun e he hb => ?_⟩
   have := hz e he hb
   rw [getD_push_lt (by omega)]
   exact hall _ this
  refine ⟨fun h => (by rw [h] at hmem; cases hmem), fun j hj => ?_⟩
  have hje := ready_push_all hs hall j hj
  subst hje
  have hdone : Region.ready md (ops.push oz) ((listed.push false).setIfInBounds ops.size true) = [] := by
   refine List.eq_nil_iff_forall_not_mem.2 fun k hk => ?_
   rw [mem_ready] at hk
   obtain ⟨h0, o, ho, _⟩ := hk
   have hlt : k < ops.size + 1 := by have := (Array.getElem?_eq_some_iff.1 ho).1; simpa using this
   by_cases hk' : k = ops.size
   ·subst hk'; simp [Array.getD, hs] at h0
   ·have h1 : k < ops.size := by omega
    have h2 := hall k h1
    have h3 : k < listed.size := by omega
    simp [Array.getD, h3, Nat.lt_succ_of_lt h3, Ne.symm hk', Array.getElem_push_lt h3] at h0 h2
    rw [h0] at h2; cases h2
  unfold wpOp
  simp only [Array.getElem?_push_size]
  have hw : Region.wanted oz (yielded (ops.push oz) a.tmps) = true := by simp [Region.wanted, hgz]
  rw [if_pos hw]
  refine (hN a w hq).imp (fun hx => Oper.wp_mono (fun a' w' h' => ?_) hx) id
  cases fuel with
  | zero => exact ⟨hdone, h'⟩
  | succ fuel => exact ⟨fun _ => h', fun k hk => by rw [hdone] at hk; cases hk⟩
 intro fuel
 induction fuel with
 | zero =>
  intro listed a w hs _ _ h
  exact lastStep 0 listed a w hs (all_of_none hfwd hs h.1) h.2
 | succ fuel ih =>
  intro listed a w hs hcl h0L h
  by_cases hall : AllOn ops.size listed
  ·refine lastStep (fuel + 1) listed a w hs hall (h.1 (List.eq_nil_iff_forall_not_mem.2 fun k hk => ?_))
   rw [mem_ready] at hk
   obtain ⟨h0, o, ho, _⟩ := hk
   have h1 := (Array.getElem?_eq_some_iff.1 ho).1
   have h2 := hall k h1
   have h3 : k < listed.size := by omega
   simp [Array.getD, h3] at h0 h2
   rw [h0] at h2; cases h2
  ·refine ⟨fun hr => ?_, fun j hj => ?_⟩
   ·have : Region.ready md ops listed = [] := List.eq_nil_iff_forall_not_mem.2 fun k hk => by
     have hk2 : k ∈ Region.ready md (ops.push oz) (listed.push false) := by
      rw [mem_ready] at hk ⊢
      obtain ⟨h0, o, ho, hh⟩ := hk
      have h1 := (Array.getElem?_eq_some_iff.1 ho).1
      refine ⟨by rw [getD_push_lt (by omega)]; exact h0, o, by rw [Array.getElem?_push_lt h1, ← Array.getElem?_eq_getElem h1]; exact ho, fun e he hb => ?_⟩
      rw [getD_push_lt (by have := hfwd k o ho e he hb; omega)]
      exact hh e he hb
     rw [hr] at hk2; cases hk2
    exact absurd (all_of_none hfwd hs this) hall
   ·have hj' := ready_push_some2 hz hz2 hfwd hs hcl h0L hall j hj
    have h1 := h.2 j hj'
    have hlt : j < ops.size := by
     rw [mem_ready] at hj'
     obtain ⟨_, o, ho, _⟩ := hj'
     exact (Array.getElem?_eq_some_iff.1 ho).1
    unfold wpOp at h1 ⊢
    rw [Array.getElem?_push_lt hlt]
    rw [Array.getElem?_eq_getElem hlt] at h1
    simp only at h1 ⊢
    have hg := hgd j _ (Array.getElem?_eq_getElem hlt)
    have hw1 : Region.wanted ops[j] (yielded (ops.push oz) a.tmps) = true := by simp [Region.wanted, hg]
    have hw2 : Region.wanted ops[j] (yielded ops a.tmps) = true := by simp [Region.wanted, hg]
    rw [if_pos hw1]
    rw [if_pos hw2] at h1
    rcases h1 with h1 | ⟨h1, h2⟩
    ·refine .inl (wp_turn (fun a' w' h' => ?_) hP hL h1)
     rw [set_push (by omega)]
     exact ih _ _ _ (by simp [hs]) (hcl.set hj') (fun i hi => getD_set_true (h0L i hi)) h'
    ·exact .inr ⟨h1, hL h2⟩
def edgeB (md : Region.Mode) (ops : Array Oper) (j i : Nat) : Bool := match ops[j]? with | some o => o.after.toList.any (fun f => Region.binds md f && f.on == i) | none => false
theorem edgeB_spec {j i : Nat} (h : edgeB md ops j i = true) : ∃ o f, ops[j]? = some o ∧ f ∈ o.after ∧ Region.binds md f = true ∧ f.on = i := by
 unfold edgeB at h
 split at h
 ·rename_i o ho
  simp only [List.any_eq_true, Bool.and_eq_true, beq_iff_eq, Array.mem_toList_iff] at h
  obtain ⟨f, hf, hb, hon⟩ := h
  exact ⟨o, f, ho, hf, hb, hon⟩
 ·cases h
def viaB (md : Region.Mode) (ops : Array Oper) (known : List Nat) : List (Nat × Nat) → List Nat
 | [] => known
 | (i, j) :: r => viaB md ops (if (known.contains j && edgeB md ops j i) = true then i :: known else known) r
theorem viaB_dep : ∀ (r : List (Nat × Nat)) (known : List Nat), (∀ i ∈ known, Dep md ops oz i) → ∀ i ∈ viaB md ops known r, Dep md ops oz i
 | [], known, h => h
 | (i, j) :: r, known, h => by
  unfold viaB
  refine viaB_dep r _ ?_
  by_cases hc : (known.contains j && edgeB md ops j i) = true
  ·rw [if_pos hc]
   simp only [Bool.and_eq_true] at hc
   obtain ⟨hj, hx⟩ := hc
   obtain ⟨o, f, ho, hf, hb, hon⟩ := edgeB_spec hx
   intro m hm
   rcases List.mem_cons.1 hm with rfl | hm
   ·rw [← hon]
    exact .step (h j (by simpa using hj)) ho hf hb
   ·exact h m hm
  ·rw [if_neg hc]
   exact h
def splitB2 (md : Region.Mode) (ops : Array Oper) (oz : Oper) (L0 : List Nat) (via : List (Nat × Nat)) : Bool :=
 ops.toList.all (fun o => o.guard.isNone) && oz.guard.isNone && oz.after.toList.all (fun e => !Region.binds md e || decide (e.on < ops.size)) &&
 (List.range ops.size).all (fun i => L0.contains i || (viaB md ops ((oz.after.toList.filter (Region.binds md)).map (·.on)) via).contains i) &&
 (List.range ops.size).all (fun i => match ops[i]? with | some o => o.after.toList.all (fun e => !Region.binds md e || decide (e.on < i)) | none => true)
theorem one_last2 {Q' : Exit → Act → World → Prop} {L0 : List Nat} {via : List (Nat × Nat)} {a : Act} {w : World} {fuel : Nat} {listed : Array Bool} (hB : splitB2 md ops oz L0 via = true) (hs : listed.size = ops.size) (hcl : Closed md ops listed) (h0L : ∀ i ∈ L0, listed.getD i false = true)
 (hP : ∀ c a w, Q' (.panic c) a w → Q (.panic c) a w) (hL : LetsOut Q' → LetsOut Q) (hN : ∀ a w, Q' .normal a w → oz.wp P a w (fun a w => Q .normal a w) Q ∨ (oz.asks P a w ∧ LetsOut Q))
 (h : wpAny P md ops Q' fuel listed a w) : wpAny P md (ops.push oz) Q (fuel + 1) (listed.push false) a w := by
 simp only [splitB2, Bool.and_eq_true, List.all_eq_true, List.mem_range, decide_eq_true_eq, Option.isNone_iff_eq_none, Array.mem_toList_iff, Bool.or_eq_true, Bool.not_eq_true'] at hB
 obtain ⟨⟨⟨⟨h1, h2⟩, h3⟩, h4⟩, h5⟩ := hB
 refine wpAny_last2 (L0 := L0) (fun i o ho => h1 o (Array.mem_of_getElem? ho)) h2 (fun e he hb => ?_) (fun i hi => ?_) (fun i o ho e he hb => ?_) hP hL hN fuel listed a w hs hcl h0L h
 ·rcases h3 e he with h | h
  ·rw [hb] at h; cases h
  ·exact h
 ·rcases h4 i hi with h | h
  ·exact .inl (by simpa using h)
  ·refine .inr (viaB_dep via _ (fun j hj => ?_) i (by simpa using h))
   obtain ⟨e, he, rfl⟩ := List.mem_map.1 hj
   obtain ⟨he1, he2⟩ := List.mem_filter.1 he
   exact .here (by simpa using he1) he2
 ·have := h5 i (Array.getElem?_eq_some_iff.1 ho).1
  rw [ho] at this
  simp only [List.all_eq_true, Array.mem_toList_iff, Bool.or_eq_true, Bool.not_eq_true', decide_eq_true_eq] at this
  rcases this e he with h | h
  ·rw [hb] at h; cases h
  ·exact h
def lastsB2 (l : List Oper) (L0 : List Nat) (via : List (Nat × Nat)) : Nat → Nat → Bool
 | 0, _ => true
 | k + 1, n => (match l[n]? with | some oz => splitB2 .any (l.take n).toArray oz L0 via | none => false) && lastsB2 l L0 via k (n + 1)
def closedB (md : Region.Mode) (ops : Array Oper) (listed : Array Bool) : Bool :=
 (List.range ops.size).all fun j => !listed.getD j false || (match ops[j]? with | some o => o.after.toList.all (fun e => !Region.binds md e || listed.getD e.on false) | none => true)
theorem closedB_spec {listed : Array Bool} (h : closedB md ops listed = true) : Closed md ops listed := by
 intro j o ho hj e he hb
 simp only [closedB, List.all_eq_true, List.mem_range, Bool.or_eq_true, Bool.not_eq_true'] at h
 rcases h j (Array.getElem?_eq_some_iff.1 ho).1 with h1 | h1
 ·rw [hj] at h1; cases h1
 ·rw [ho] at h1
  simp only [List.all_eq_true, Array.mem_toList_iff, Bool.or_eq_true, Bool.not_eq_true'] at h1
  rcases h1 e he with h2 | h2
  ·rw [hb] at h2; cases h2
  ·exact h2
theorem Closed.pushed {listed : Array Bool} (h : Closed md ops listed) (hs : listed.size = ops.size) (hfwd : ∀ i o, ops[i]? = some o → ∀ e ∈ o.after, Region.binds md e = true → e.on < i) : Closed md (ops.push oz) (listed.push false) := by
 intro j o ho hj e he hb
 have hlt : j < ops.size + 1 := by have := (Array.getElem?_eq_some_iff.1 ho).1; simpa using this
 by_cases hj2 : j = ops.size
 ·subst hj2
  exfalso
  simp [Array.getD, ← hs] at hj
 ·have h1 : j < ops.size := by omega
  rw [Array.getElem?_push_lt h1] at ho
  rw [getD_push_lt (by omega)] at hj
  have ho' : ops[j]? = some o := by rw [Array.getElem?_eq_getElem h1]; exact ho
  have h2 := hfwd j o ho' e he hb
  rw [getD_push_lt (by omega)]
  exact h j o ho' hj e he hb
theorem any_lasts2 (l : List Oper) (L0 : List Nat) (via : List (Nat × Nat)) {a : Act} {w : World} : ∀ (k n fuel : Nat) (listed : Array Bool), n + k = l.length → lastsB2 l L0 via k n = true → listed.size = (l.take n).toArray.size → Closed .any (l.take n).toArray listed → (∀ i ∈ L0, listed.getD i false = true) →
 wpAny P .any (l.take n).toArray (ThenL P l.toArray Q (l.drop n)) fuel listed a w →
 wpAny P .any l.toArray Q (fuel + k) (listed ++ Array.replicate k false) a w
 | 0, n, fuel, listed, hn, _, hs, hc, h0, h => by
  have e1 : l.take n = l := List.take_of_length_le (by omega)
  have e2 : l.drop n = [] := List.drop_of_length_le (by omega)
  have e3 : ThenL P l.toArray Q [] = Q := by
   funext e a w
   cases e <;> simp [ThenL, wpList]
  rw [e1, e2, e3] at h
  simpa using h
 | k + 1, n, fuel, listed, hn, hB, hs, hc, h0, h => by
  simp only [lastsB2, Bool.and_eq_true] at hB
  obtain ⟨h1, h2⟩ := hB
  have hlt : n < l.length := by omega
  rw [List.getElem?_eq_getElem hlt] at h1
  have e1 : l.take (n + 1) = l.take n ++ [l[n]] := List.take_succ_eq_append_getElem hlt
  have e2 : l.drop n = l[n] :: l.drop (n + 1) := List.drop_eq_getElem_cons hlt
  have e3 : (l.take (n + 1)).toArray = (l.take n).toArray.push l[n] := by rw [e1]; simp
  have h1' := h1
  simp only [splitB2, Bool.and_eq_true, List.all_eq_true, List.mem_range, Option.isNone_iff_eq_none, Array.mem_toList_iff, Bool.or_eq_true, Bool.not_eq_true', decide_eq_true_eq] at h1'
  have hgz : l[n].guard = none := h1'.1.1.1.2
  have hfwd : ∀ (i : Nat) (o : Oper), (l.take n).toArray[i]? = some o → ∀ e ∈ o.after, Region.binds .any e = true → e.on < i := by
   intro i o ho e he hb
   have := h1'.2 i (Array.getElem?_eq_some_iff.1 ho).1
   rw [ho] at this
   simp only [List.all_eq_true, Array.mem_toList_iff, Bool.or_eq_true, Bool.not_eq_true', decide_eq_true_eq] at this
   rcases this e he with h | h
   ·rw [hb] at h; cases h
   ·exact h
  have step := one_last2 (P := P) (md := .any) (ops := (l.take n).toArray) (oz := l[n]) (Q := ThenL P l.toArray Q (l.drop (n + 1))) (Q' := ThenL P l.toArray Q (l.drop n)) (L0 := L0) (via := via) (a := a) (w := w) (fuel := fuel) (listed := listed) h1 hs hc h0 (fun _ _ _ h => h) (fun ⟨a, w, h⟩ => ⟨a, w, h⟩) (fun a w hq => by
   have hq' : wpList P l.toArray Q (l.drop n) a w := hq
   rw [e2] at hq'
   unfold wpList at hq'
   have hw : Region.wanted l[n] (yielded l.toArray a.tmps) = true := by simp [Region.wanted, hgz]
   rw [if_pos hw] at hq'
   rcases hq' with hq' | ⟨h3, h4⟩
   ·exact .inl (wp_turn (fun _ _ h => h) (fun _ _ _ h => h) (fun ⟨a, w, h⟩ => ⟨a, w, h⟩) hq')
   ·exact .inr ⟨h3, by obtain ⟨a, w, h⟩ := h4; exact ⟨a, w, h⟩⟩) h
  rw [← e3] at step
  have := any_lasts2 l L0 via k (n + 1) (fuel + 1) (listed.push false) (by omega) h2 (by rw [e3, Array.size_push, Array.size_push, hs]) (by rw [e3]; exact hc.pushed hs hfwd) (fun i hi => by
   have hx := h0 i hi
   by_cases hi2 : i < listed.size
   ·rw [getD_push_lt hi2]; exact hx
   ·simp [Array.getD, hi2] at hx) step
  have e5 : listed.push false ++ Array.replicate k false = listed ++ Array.replicate (k + 1) false := by
   apply Array.ext_getElem?
   intro i
   simp only [Array.getElem?_append, Array.getElem?_push, Array.size_push, Array.getElem?_replicate]
   by_cases h1 : i < listed.size
   ·have h2 : i < listed.size + 1 := by omega
    have h3 : ¬ i = listed.size := by omega
    simp [h1, h2, h3]
   ·by_cases h2 : i = listed.size
    ·subst h2; simp
    ·have h3 : ¬ i < listed.size + 1 := by omega
     simp [h1, h3]
     have e : i - (listed.size + 1) < k ↔ i - listed.size < k + 1 := by omega
     simp [e]
  rw [e5] at this
  rw [show fuel + (k + 1) = fuel + 1 + k by omega]
  exact this
theorem wpPick_mono {l : List Oper} {S : World → Prop} {L L' : Act → Prop} (hL : ∀ a, L a → L' a) : ∀ (is : List Nat) (a : Act), wpPick P l S L is a → wpPick P l S L' is a
 | [], a, h => hL a h
 | i :: is, a, ⟨o, ho, v, hy, h⟩ => ⟨o, ho, v, hy, wpPick_mono hL is _ h⟩
theorem held_true : ∀ (fuel : Nat) (listed : Array Bool) (a : Act) (w : World), wpAny P md ops Q fuel listed a w → wpAnyH P md ops Q (fun _ => True) fuel listed a w := by
 intro fuel
 induction fuel with
 | zero => exact fun _ _ _ h => h
 | succ fuel ih =>
  rintro listed a w ⟨h1, h2⟩
  refine ⟨h1, fun i hi => ?_⟩
  have h := h2 i hi
  unfold wpOp at h ⊢
  split at h
  ·rename_i ho
   exact ⟨trivial, ih _ _ _ h⟩
  ·rename_i o ho
   split at h
   ·rename_i hw
    rw [if_pos hw]
    exact h.imp (fun h => Oper.wp_mono (fun a w h => ⟨trivial, ih _ _ _ h⟩) h) id
   ·rename_i hw
    rw [if_neg hw]
    exact ⟨trivial, ih _ _ _ h⟩
theorem held_lasts2 {id : Nat} {a : Act} {w : World} {l : List Oper} (n k : Nat) (pre : List Nat) (via : List (Nat × Nat)) (is : List Nat) (g : Nat) (S : World → Prop) (hm : P.follows .mixedOrders = true) (hk : n + k = l.length)
 (hsel0 : Region.noSelect l.toArray = true) (hpre : pickB .any l.toArray pre (Array.replicate l.toArray.size false) = true)
 (hlast : lastsB2 l pre via k n = true) (hset : setL pre (Array.replicate l.toArray.size false) = setL pre (Array.replicate n false) ++ Array.replicate k false) (hsz : (setL pre (Array.replicate n false)).size = (l.take n).toArray.size) (hclo : closedB .any (l.take n).toArray (setL pre (Array.replicate n false)) = true) (hon : (pre.all fun i => (setL pre (Array.replicate n false)).getD i false) = true)
 (hsel : Region.noSelect (l.take n).toArray = true) (hg : g + is.length + k + pre.length = l.toArray.size) (hB : pickB .any (l.take n).toArray is (setL pre (Array.replicate n false)) = true) (hS : S w.drew)
 (h : wpPick P l (fun _ => True) (fun a1 => wpPick P (l.take n) S (fun a' => wpAnyH P .any (l.take n).toArray (Only (ThenL P l.toArray (Only Q) (l.drop n))) S g (setL is (setL pre (Array.replicate n false))) a' w.drew) is a1) pre a) : (Code.region id l.toArray true).wp P Q a w := by
 refine wp_region_any hm (only_any _ _ _ _ (wpAny_of_held (S := fun _ => True) _ _ _ _ ?_))
 have h1 := held_pick (P := P) (md := .any) (Q := Q) (S := fun _ => True) (w := w.drew) hsel0 (g := g + is.length + k) trivial pre (Array.replicate l.toArray.size false) a hpre ?_
 ·rw [hg] at h1
  exact h1
 ·refine wpPick_mono (fun a1 h2 => ?_) pre a h
  refine held_true _ _ _ _ ?_
  rw [hset]
  refine any_lasts2 l pre via k n (g + is.length) _ hk hlast hsz (closedB_spec hclo) (fun i hi => by simpa using List.all_eq_true.1 hon i hi) ?_
  exact only_any _ _ _ _ (wpAny_of_held (S := S) _ _ _ _ (held_pick (P := P) (md := .any) (S := S) hsel (g := g) hS is _ a1 hB h2))
end Go.Proofs.YtckihjfkafdncaaGreatDoor
