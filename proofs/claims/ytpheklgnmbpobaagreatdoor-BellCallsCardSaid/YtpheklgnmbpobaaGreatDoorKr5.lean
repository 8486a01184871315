/- Texts that the proof rests on, merged: Rt1, Mk, Pw1, Pw2, Np, Pl0, Pl1, Pl2, Pl3, LyS, CdB, Pc0, Cv1, Tot, Cv2, Sh4, G1c, G2, QD, G3. -/
import Derived.Test.YtpheklgnmbpobaaGreatDoorKr4
import Derived.Deep.RegionHeld3
import Derived.WalkSmall
import Derived.Maps.Own
import Derived.Maps.OwnIn
import Derived.Sort.CutIn
import Derived.Lib.SmallJoins
import Derived.Shelf.Small.Wraps
import Derived.Shelf.Strings.Shaped
import Derived.Ground.NamesProg
import Derived.Test.YtpheklgnmbpobaaGreatDoorProg
namespace Go.Proofs.YtpheklgnmbpobaaGreatDoor
open Go.RowKit
open Go.Lib (decDigits nDigits)
set_option linter.unusedVariables false
set_option linter.unusedSimpArgs false
def mkE (n d : ByteArray) : Int := if iB n = false then 3 else if 4000 < (iD n).size then 5 else if errN d.data.toList ≠ 0 then errN d.data.toList else if d = ⟨#[48]⟩ then 6 else outE (qmk (iM n) (bN (iD n)) (bN d))
def mkB (n d : ByteArray) : ByteArray := if iB n = false then ⟨#[]⟩ else if 4000 < (iD n).size then ⟨#[]⟩ else if errN d.data.toList ≠ 0 then ⟨#[]⟩ else if d = ⟨#[48]⟩ then ⟨#[]⟩ else outB (qmk (iM n) (bN (iD n)) (bN d))
theorem qmk_len {m : Bool} {n d L : Nat} (hd : 0 < d) (h1 : (limbs n).length ≤ L) (h2 : (limbs d).length ≤ L) : (limbs (qmk m n d).num.natAbs).length ≤ L ∧ (limbs (qmk m n d).den).length ≤ L := by
  rw [qmk_num hd, qmk_den hd, sgn_natAbs]
  exact ⟨Nat.le_trans (limbs_length_mono (Nat.div_le_self _ _)) h1, Nat.le_trans (limbs_length_mono (Nat.div_le_self _ _)) h2⟩
set_option maxRecDepth 100000 in
set_option maxHeartbeats 2000000 in
theorem q_Make (w : World) (n d : ByteArray) (hn : n.size ≤ 1000000) (hd : d.size ≤ 1000000) (hL : Lay w) :
    Calls Tryz.prog 41 #[.string n, .string d] w fun e w' => e = .returned (.tuple #[.string (mkB n d), .int .i64 (mkE n d)]) ∧ Below w.heap.size w w' := by
  have HL := hid hL
  have hz := iD_size n
  have HI := fun V => hid (f_Integer V n (by omega))
  have HC := fun V => hid (n_Check V d (by omega))
  have HP1 := fun V h => hid (l_Parse V (iD n) h (by omega))
  have HP2 := fun V h => hid (l_Parse V d h hd)
  cases hb : iB n
  · have e1 : mkB n d = ⟨#[]⟩ := if_pos hb
    have e2 : mkE n d = 3 := if_pos hb
    rw [e1, e2]
    rw [hb] at HI
    clear e1 e2 hb hz HP1 HP2 hn hd hL
    go_enter Tryz.func41, Tryz.ntmps41
    go_wp2_with fail
    refine (HI _).out.mono ?_; rintro e w1 ⟨rfl, hb1⟩
    have b1 := hid hb1; clear hb1
    go_wp2_with fail
    go_ret2
    exact ⟨rfl, b1.out⟩
  · have nb : ¬ iB n = false := by simp [hb]
    by_cases h1 : 4000 < (iD n).size
    · have e1 : mkB n d = ⟨#[]⟩ := by rw [mkB, if_neg nb, if_pos h1]
      have e2 : mkE n d = 5 := by rw [mkE, if_neg nb, if_pos h1]
      have q0 : decide ((4000 : Int) < ((iD n).size : Nat)) = true := by simp; omega
      rw [e1, e2]
      rw [hb] at HI
      clear e1 e2 hb hz HP1 HP2 hn hd hL h1 nb
      go_enter Tryz.func41, Tryz.ntmps41
      go_wp2_with fail
      refine (HI _).out.mono ?_; rintro e w1 ⟨rfl, hb1⟩
      have b1 := hid hb1; clear hb1
      go_wp2_with fail
      go_ret2
      exact ⟨rfl, b1.out⟩
    · have q0 : decide ((4000 : Int) < ((iD n).size : Nat)) = false := by simp; omega
      by_cases h2 : errN d.data.toList = 0
      · have nc : ¬ errN d.data.toList ≠ 0 := fun h => h h2
        by_cases h3 : d = ⟨#[48]⟩
        · have e1 : mkB n d = ⟨#[]⟩ := by rw [mkB, if_neg nb, if_neg h1, if_neg nc, if_pos h3]
          have e2 : mkE n d = 6 := by rw [mkE, if_neg nb, if_neg h1, if_neg nc, if_pos h3]
          rw [e1, e2]
          rw [hb] at HI
          rw [h2] at HC
          clear e1 e2 hb hz HP1 HP2 hn hd hL h1 nb nc h2
          subst h3
          go_enter Tryz.func41, Tryz.ntmps41
          go_wp2_with fail
          refine (HI _).out.mono ?_; rintro e w1 ⟨rfl, hb1⟩
          have b1 := hid hb1; clear hb1
          go_wp2_with fail
          refine (HC _).out.mono ?_; rintro e w2 ⟨rfl, hb2⟩
          have b2 := hid (bnext b1.out hb2); clear hb2
          go_wp2_with fail
          go_ret2
          exact ⟨rfl, b2.out⟩
        · have e1 : mkB n d = outB (qmk (iM n) (bN (iD n)) (bN d)) := by rw [mkB, if_neg nb, if_neg h1, if_neg nc, if_neg h3]
          have e2 : mkE n d = outE (qmk (iM n) (bN (iD n)) (bN d)) := by rw [mkE, if_neg nb, if_neg h1, if_neg nc, if_neg h3]
          rw [e1, e2]
          have d1 := fB_dig (iB_form hb)
          obtain ⟨d2, d3, d4⟩ := errN_dig h2
          have hdp : 0 < bN d := formZ (formB_iff.2 (by obtain ⟨x, hx, _⟩ := errN_zero.1 h2; exact isForm_iff.2 ⟨x, hx⟩)) h3
          have l1 : (limbs (bN (iD n))).length ≤ 1000 := dv_limbs d1 (by rw [list_size]; omega)
          have l2 : (limbs (bN d)).length ≤ 1000 := d4
          have HP1 := fun V => HP1 V d1
          have HP2 := fun V => HP2 V d2
          have HQ := qmk_len (m := iM n) hdp l1 l2
          have HM := fun V v u hv hu => hid (f_Make V (iM n) v u (bN (iD n)) (bN d) hv hu hdp (by omega) (by omega))
          obtain ⟨Q, hQ⟩ : ∃ Q, qmk (iM n) (bN (iD n)) (bN d) = Q := ⟨_, rfl⟩
          rw [hQ] at HQ HM ⊢
          have HN := fun V v hv hL => hid (f_Num V v Q hv (by omega) (by omega) hL)
          rw [hb] at HI
          rw [h2] at HC
          have i1 := ne_lit (l := [48]) h3
          clear e1 e2 hb hz hn hd hL h1 nb nc h2 h3 d1 d2 d3 d4 hdp l1 l2 HQ hQ
          go_enter Tryz.func41, Tryz.ntmps41
          go_wp2_with fail
          refine (HI _).out.mono ?_; rintro e w1 ⟨rfl, hb1⟩
          have b1 := hid hb1; clear hb1
          go_wp2_with fail
          refine (HC _).out.mono ?_; rintro e w2 ⟨rfl, hb2⟩
          have b2 := hid (bnext b1.out hb2); clear hb2
          go_wp2_with fail
          refine (HP1 _).out.mono ?_; rintro e w3 ⟨⟨v3, rfl, hv3⟩, hb3⟩
          have b3 := hid (bnext b2.out hb3); have V3 := hid hv3; clear hb3 hv3
          go_wp2_with fail
          refine (HP2 _).out.mono ?_; rintro e w4 ⟨⟨v4, rfl, hv4⟩, hb4⟩
          have b4 := hid (bnext b3.out hb4); have V4 := hid hv4; have W3 := hid (V3.out.call hb4); clear hb4 hv4
          go_wp2_with fail
          refine (HM _ _ _ W3.out V4.out).out.mono ?_; rintro e w5 ⟨⟨v5, rfl, hv5⟩, hb5⟩
          have b5 := hid (bnext b4.out hb5); have V5 := hid hv5; clear hb5 hv5
          go_wp2_with fail
          refine (HN _ _ V5.out (HL.out.call b5.out)).out.mono ?_; rintro e w6 ⟨rfl, hb6⟩
          have b6 := hid (bnext b5.out hb6); clear hb6
          go_wp2_with fail
          go_ret2
          exact ⟨rfl, b6.out⟩
      · have e1 : mkB n d = ⟨#[]⟩ := by rw [mkB, if_neg nb, if_neg h1, if_pos h2]
        have e2 : mkE n d = errN d.data.toList := by rw [mkE, if_neg nb, if_neg h1, if_pos h2]
        rw [e1, e2]
        rw [hb] at HI
        obtain ⟨x, hx⟩ : ∃ x, errN d.data.toList = x := ⟨_, rfl⟩
        rw [hx] at HC h2 ⊢
        have q1 : (x == 0) = false := by simpa using h2
        have q2 : (x != 0) = true := by simpa using h2
        clear e1 e2 hb hz HP1 HP2 hn hd hL h1 nb h2 hx
        go_enter Tryz.func41, Tryz.ntmps41
        go_wp2_with fail
        refine (HI _).out.mono ?_; rintro e w1 ⟨rfl, hb1⟩
        have b1 := hid hb1; clear hb1
        go_wp2_with fail
        refine (HC _).out.mono ?_; rintro e w2 ⟨rfl, hb2⟩
        have b2 := hid (bnext b1.out hb2); clear hb2
        go_wp2_with fail
        go_ret2
        exact ⟨rfl, b2.out⟩
end Go.Proofs.YtpheklgnmbpobaaGreatDoor
namespace Go.Proofs.YtpheklgnmbpobaaGreatDoor
open Go.RowKit
open Go.Lib (decDigits nDigits)
set_option linter.unusedVariables false
set_option linter.unusedSimpArgs false
theorem mk_num {a b : Nat} (ha : nDigits a ≤ 4000) (hb : nDigits b ≤ 4000) (h0 : b ≠ 0) : mkB (numB a) (numB b) = outB (qmk false a b) ∧ mkE (numB a) (numB b) = outE (qmk false a b) := by
  have e1 : iM (numB a) = false := by
    unfold iM Lib.hasPrefix
    rw [numB_list]
    exact minus_dec a
  have e2 : iD (numB a) = numB a := iD_plain e1
  have e3 : iB (numB a) = true := by
    unfold iB
    rw [e1, e2, fB_num]; rfl
  have e4 : errN (numB b).data.toList = 0 := errN_numB hb
  have e5 : ¬ (numB b = ⟨#[48]⟩) := by rw [← numB_zero]; exact numB_ne h0
  have e6 : ¬ 4000 < (iD (numB a)).size := by rw [e2, numB_size]; omega
  constructor
  · rw [mkB, if_neg (by simp [e3]), if_neg e6, if_neg (fun h => h e4), if_neg e5, e1, e2, bN_num, bN_num]
  · rw [mkE, if_neg (by simp [e3]), if_neg e6, if_neg (fun h => h e4), if_neg e5, e1, e2, bN_num, bN_num]
end Go.Proofs.YtpheklgnmbpobaaGreatDoor
namespace Go.Proofs.YtpheklgnmbpobaaGreatDoor
open Go.RowKit
open Go.Lib (decDigits nDigits)
set_option linter.unusedVariables false
set_option linter.unusedSimpArgs false
theorem NoInt.slice (a : Option Addr) (n c : Nat) : NoInt #[.slice a n c] := by
  intro i k x h
  rcases i with _ | i <;> simp at h
theorem NoInt.bool (m : Bool) : NoInt #[.bool m] := by
  intro i k x h
  rcases i with _ | i <;> simp at h
structure PowS (w : World) (bs bf bl : Nat) (sq : Nat) (fits : Bool) : Prop where
  sq : ∃ a n c, Blk w bs #[.slice a n c] 115 ∧ IsN .u64 w (.slice a n c) sq
  fits : Blk w bf #[.bool fits] 4
  lim : Blk w bl #[.int .i64 4000] 3
  n1 : bs ≠ bf
  n2 : bs ≠ bl
  n3 : bf ≠ bl
set_option maxRecDepth 100000 in
set_option maxHeartbeats 1000000 in
theorem l_Pow1 (w : World) (bs bf bl sq B : Nat) (f : Bool) (h : PowS w bs bf bl sq f) (hs : B ≤ bs) (hf : B ≤ bf) (hB : B ≤ w.heap.size) (hlen : (limbs sq).length ≤ 100000) (hL : Lay w) (hLB : LayLt B) :
    Calls Tryz.prog 226 #[.pointer (some ⟨bs, 0, none⟩), .pointer (some ⟨bl, 0, none⟩), .pointer (some ⟨bf, 0, none⟩)] w fun e w' =>
      (∃ v, e = .returned v) ∧ PowS w' bs bf bl (sq * sq) (decide (nDigits (sq * sq) ≤ 4000)) ∧ (∀ k v x, IsN k w v x → IsN k w' v x) ∧ Below B w w' := by
  obtain ⟨⟨a, n, c, hbs, hv⟩, hbf, hbl, n1, n2, n3⟩ := h
  have c0 : w.cell? ⟨bs, 0, none⟩ = some (.slice a n c) := hbs.cell 0
  have c1 := hbs.free 0
  have c2 : w.cell? ⟨bl, 0, none⟩ = some (.int .i64 4000) := hbl.cell 0
  have HBS := hid hbs; have HBF := hid hbf; have HBL := hid hbl; have HV := hid hv; have N1 := hid n1; have N2 := hid n2; have N3 := hid n3
  have HS := hid hs; have HF := hid hf; have HB := hid hB; have HLEN := hid hlen; have HL := hid hL; have HLB := hid hLB
  have l2 := len_mul hlen hlen
  have HLM := hid (show (limbs (sq * sq)).length ≤ 1000000 by omega)
  obtain ⟨S, hS⟩ : ∃ S, sq * sq = S := ⟨_, rfl⟩
  have HM := fun V h => hid (l_Mul V (.slice a n c) (.slice a n c) sq sq h h (by omega) (by omega))
  rw [hS] at HM HLM ⊢
  clear hbs hv hbf hbl n1 n2 n3 hs hf hB hlen hL l2 hS hLB
  go_enter Tryz.func226, Tryz.ntmps226
  go_wp2_with fail
  refine (HM _ HV.out).out.mono ?_; rintro e w1 ⟨⟨v1, rfl, hv1⟩, hb1⟩
  obtain ⟨a1, k1, d1, rfl⟩ : ∃ a k d, v1 = .slice a k d := by
    obtain ⟨a, c, e, _⟩ := hv1.openI
    exact ⟨_, _, _, e⟩
  have S1 := hid (HBS.out.call hb1); have F1 := hid (HBF.out.call hb1); have T1 := hid (HBL.out.call hb1); have B1 := hid hb1; have V1 := hid hv1
  have e0 := S1.out.free 0
  have e1 := S1.out.cell 0
  simp at e1
  clear hb1 hv1 HM c0 c1 c2
  go_wp2_with fail
  obtain ⟨w2, hw2⟩ : ∃ w2, w1.setCell ⟨bs, 0, none⟩ (.slice a1 k1 d1) = w2 := ⟨_, rfl⟩
  have s2 : Blk w2 bs #[.slice a1 k1 d1] 115 := by rw [← hw2]; exact S1.out.set 0 _
  have f2 : Blk w2 bf #[.bool f] 4 := by rw [← hw2]; exact F1.out.other (fun e => N1.out e) _
  have t2 : Blk w2 bl #[.int .i64 4000] 3 := by rw [← hw2]; exact T1.out.other (fun e => N2.out e) _
  have v2 : IsN .u64 w2 (.slice a1 k1 d1) S := by rw [← hw2]; exact V1.out.setQ S1.out (NoInt.slice _ _ _) 0 _
  have k2 : ∀ k v x, IsN k w v x → IsN k w2 v x := fun k v x h => by rw [← hw2]; exact (h.call B1.out).setQ S1.out (NoInt.slice _ _ _) 0 _
  have b2 : Below B w w2 := by rw [← hw2]; exact (B1.out.mono HB.out).setCell HS.out _
  have hsz : w.heap.size ≤ w2.heap.size := by rw [← hw2]; simpa [World.setCell] using B1.out.size
  rw [hw2]
  have S2 := hid s2; have F2 := hid f2; have T2 := hid t2; have V2 := hid v2; have K2 := hid k2; have B2 := hid b2; have SZ := hid hsz
  have L2 : Hid (Lay w2) := HL.out.below b2 HLB.out
  clear s2 f2 t2 v2 k2 b2 hw2 e0 e1 hsz
  have hS : w2.drew.cell? ⟨bs, 0, none⟩ = some (.slice a1 k1 d1) ∧ w2.drew.cell? ⟨bl, 0, none⟩ = some (.int .i64 4000) := ⟨S2.out.cell 0, T2.out.cell 0⟩
  refine held_plain [0, 2] 3 (fun W' => W'.cell? ⟨bs, 0, none⟩ = some (.slice a1 k1 d1) ∧ W'.cell? ⟨bl, 0, none⟩ = some (.int .i64 4000)) (by kernel_rfl) (by kernel_rfl) (by kernel_rfl) (by kernel_rfl) hS ?_
  iterate 2
    refine ⟨_, rfl, ?_⟩
    apply Exists.intro
    refine ⟨.inl ⟨by rfl, ?_⟩, ?_⟩
    · (intro W' hW'; obtain ⟨q1, q2⟩ := hW'; go_simp; try (with_reducible rfl))
    (dsimp only [Act.put]; try simp only [List.setIfInBounds_toArray, List.set_cons_zero, List.set_cons_succ])
  clear hS
  refine held_one (i := 1) (by kernel_rfl) (by rfl) (by rfl) ?_
  go_wp2_with fail
  refine (l_Digits _ _ S (V2.out.call (Below.refl _ _).drew) (L2.out.call (Below.refl _ _).drew) HLM.out).mono ?_; rintro e w3 ⟨rfl, hb3⟩
  have B3 := hid (show Below w2.heap.size w2 w3 from (Below.refl _ _).drew.trans hb3)
  have S3 := hid (S2.out.call B3.out); have F3 := hid (F2.out.call B3.out); have T3 := hid (T2.out.call B3.out); have V3 := hid (V2.out.call B3.out)
  have hS : w3.cell? ⟨bs, 0, none⟩ = some (.slice a1 k1 d1) ∧ w3.cell? ⟨bl, 0, none⟩ = some (.int .i64 4000) := ⟨S3.out.cell 0, T3.out.cell 0⟩
  clear hb3
  go_wp2_with fail
  refine ⟨hS, ?_⟩
  refine held_more (is := [3]) (g := 1) (by kernel_rfl) rfl hS (by kernel_rfl) ?_
  iterate 1
    refine ⟨_, rfl, ?_⟩
    apply Exists.intro
    refine ⟨.inl ⟨by rfl, ?_⟩, ?_⟩
    · (intro W' hW'; clear hW'; go_simp; try (with_reducible rfl))
    (dsimp only [Act.put]; try simp only [List.setIfInBounds_toArray, List.set_cons_zero, List.set_cons_succ])
  refine held_one (i := 4) (by kernel_rfl) (by rfl) (by rfl) ?_
  have g0 := F3.out.free 0
  have g1 := F3.out.cell 0
  simp at g1
  clear hS
  go_wp2_with fail
  have s4 := S3.out.other (a := ⟨bf, 0, none⟩) (fun e => N1.out e.symm) (.bool (decide ((nDigits S : Int) ≤ 4000)))
  have f4 := F3.out.set 0 (.bool (decide ((nDigits S : Int) ≤ 4000)))
  have t4 := T3.out.other (a := ⟨bf, 0, none⟩) (fun e => N3.out e) (.bool (decide ((nDigits S : Int) ≤ 4000)))
  refine ⟨⟨s4.cell 0, t4.cell 0⟩, ?_⟩
  refine wpAnyH_done (by kernel_rfl) ?_ _
  simp only [Only]
  go_wp2_with fail
  go_end0
  refine ⟨⟨_, rfl⟩, ⟨⟨a1, k1, d1, s4, V3.out.setQ F3.out (NoInt.bool _) 0 _⟩, ?_, t4, N1.out, N2.out, N3.out⟩, ?_, ?_⟩
  · have e : decide ((nDigits S : Int) ≤ 4000) = decide (nDigits S ≤ 4000) := decide_eq_decide.2 (by omega)
    rw [← e]
    exact f4
  · intro k v x h
    exact ((K2.out k v x h).call B3.out).setQ F3.out (NoInt.bool _) 0 _
  · exact (B2.out.trans (B3.out.mono (Nat.le_trans HB.out SZ.out))).setCell HF.out _
end Go.Proofs.YtpheklgnmbpobaaGreatDoor
namespace Go.Proofs.YtpheklgnmbpobaaGreatDoor
open Go.RowKit
open Go.Lib (decDigits nDigits)
set_option linter.unusedVariables false
set_option linter.unusedSimpArgs false
structure PowI (A sq out n : Nat) (fits : Bool) : Prop where
  eq : out * sq ^ n = A
  two : 2 ≤ sq
  n1 : 1 ≤ n
  small : nDigits out ≤ 4000
  fit : fits = false → 4000 < nDigits sq
  len : fits = true → (limbs sq).length ≤ 100000
  lim : (limbs sq).length ≤ 200000
  pos : 1 ≤ out
theorem PowI.start {a n : Nat} (ha : 2 ≤ a) (hn : 1 ≤ n) (hl : (limbs a).length ≤ 100000) : PowI (a ^ n) a 1 n true :=
  ⟨Nat.one_mul _, ha, hn, by rw [nDigits_one]; omega, fun h => by (cases h), fun _ => hl, by omega, Nat.le_refl _⟩
theorem PowI.sq_le {A sq out n : Nat} {fits : Bool} (h : PowI A sq out n fits) : out * sq ≤ A := by
  rw [← h.eq]
  refine Nat.mul_le_mul_left _ ?_
  have := Nat.pow_le_pow_right (n := sq) (by have := h.two; omega) h.n1
  rwa [Nat.pow_one] at this
theorem PowI.big {A sq out n : Nat} {fits : Bool} (h : PowI A sq out n fits) (hf : fits = false) : 4000 < nDigits A := by
  refine Nat.lt_of_lt_of_le (h.fit hf) (nDigits_mono ?_)
  exact Nat.le_trans (Nat.le_mul_of_pos_left _ h.pos) h.sq_le
theorem PowI.bigO {A sq out n : Nat} {fits : Bool} (h : PowI A sq out n fits) (hb : 4000 < nDigits (out * sq)) : 4000 < nDigits A :=
  Nat.lt_of_lt_of_le hb (nDigits_mono h.sq_le)
theorem PowI.done {A sq out n : Nat} {fits : Bool} (h : PowI A sq out n fits) (hn : n = 1) : out * sq = A := by
  rw [← h.eq, hn, Nat.pow_one]
theorem sq_len {sq : Nat} (h : (limbs sq).length ≤ 100000) : (limbs (sq * sq)).length ≤ 200000 := by
  have := limbs_mul h h
  omega
theorem PowI.odd {A sq out n : Nat} {fits : Bool} (h : PowI A sq out n fits) (hf : fits = true) (ho : n % 2 = 1) (hs : nDigits (out * sq) ≤ 4000) (h2 : 1 ≤ n / 2) : PowI A (sq * sq) (out * sq) (n / 2) (decide (nDigits (sq * sq) ≤ 4000)) := by
  have h4 := Nat.mul_le_mul h.two h.two
  refine ⟨?_, by omega, h2, hs, fun e => ?_, fun e => ?_, sq_len (h.len hf), Nat.mul_pos h.pos (by have := h.two; omega)⟩
  · rw [← h.eq, Nat.mul_assoc, ← Nat.pow_two, ← Nat.pow_mul]
    have : sq * sq ^ (2 * (n / 2)) = sq ^ n := by
      rw [← Nat.pow_succ']
      congr 1
      omega
    rw [this]
  · have := of_decide_eq_false e; omega
  · have := limbs_of_digits (of_decide_eq_true e); omega
theorem PowI.even {A sq out n : Nat} {fits : Bool} (h : PowI A sq out n fits) (hf : fits = true) (ho : n % 2 = 0) : PowI A (sq * sq) out (n / 2) (decide (nDigits (sq * sq) ≤ 4000)) := by
  have h4 := Nat.mul_le_mul h.two h.two
  have h1 := h.n1
  refine ⟨?_, by omega, by omega, h.small, fun e => ?_, fun e => ?_, sq_len (h.len hf), h.pos⟩
  · rw [← h.eq, ← Nat.pow_two, ← Nat.pow_mul]
    congr 2
    omega
  · have := of_decide_eq_false e; omega
  · have := limbs_of_digits (of_decide_eq_true e); omega
def RetPowU (n : Nat) (e : Ending) (w' : World) : Prop :=
  (nDigits n ≤ 4000 ∧ ∃ v, e = .returned (.tuple #[v, .bool true]) ∧ IsN .u64 w' v n) ∨ (4000 < nDigits n ∧ e = .returned (.tuple #[.slice none 0 0, .bool false]))
theorem isN_oneU (w : World) : IsN .u64 (w.alloc (.cells #[.int .u64 1] 164)) (.slice (some ⟨w.heap.size, 0, none⟩) 1 1) 1 := by
  unfold IsN
  rw [limbs_one]
  exact Row.of_blk (b := w.heap.size) (n := 1) (c := 1) (cs := #[.int .u64 1]) (Blk.new w _ _) rfl (by unfold maxLen; omega) (fun i x hx => by simpa [ints] using hx) (Nat.le_refl _) (by unfold maxLen; omega)
theorem odd_test {n : Nat} (h : n < 18446744073709551616) : (bits BinOp.and IntKind.u64 (n : Int) 1 == 1) = decide (n % 2 = 1) := by
  rw [and_one_u64 _ (by omega) (by omega), Bool.eq_iff_iff, beq_iff_eq, decide_eq_true_eq]
  omega
set_option maxRecDepth 100000 in
set_option maxHeartbeats 1000000 in
theorem l_Pow_zero (w : World) (v : Value) (a : Nat) (ha : IsN .u64 w v a) : Calls Tryz.prog 193 #[v, .int .u64 0, .int .i64 4000] w fun e w' => RetPowU (a ^ 0) e w' ∧ Below w.heap.size w w' := by
  have H1 := hid (isN_oneU (w.alloc (.cells #[.int .i64 4000] 3)))
  go_enter Tryz.func193, Tryz.ntmps193
  go_wp2_with fail
  go_ret2
  refine ⟨.inl ⟨by rw [Nat.pow_zero, nDigits_one]; omega, _, rfl, by rw [Nat.pow_zero]; simpa using H1.out⟩, ((Below.refl _ _).alloc (Nat.le_refl _) _).alloc (by simp) _⟩
set_option maxRecDepth 100000 in
set_option maxHeartbeats 1000000 in
theorem l_Pow_small (w : World) (v : Value) (a n : Nat) (ha : IsN .u64 w v a) (hs : a ≤ 1) (hn : 0 < n) (hn2 : n < 18446744073709551616) : Calls Tryz.prog 193 #[v, .int .u64 n, .int .i64 4000] w fun e w' => RetPowU (a ^ n) e w' ∧ Below w.heap.size w w' := by
  have hpow := hid (show a ^ n = a ∧ nDigits a ≤ 4000 from by
    rcases (show a = 0 ∨ a = 1 by omega) with rfl | rfl
    · exact ⟨Nat.zero_pow hn, by rw [nDigits_zero]; omega⟩
    · exact ⟨Nat.one_pow _, by rw [nDigits_one]; omega⟩)
  have b0 := hid ((Below.refl w.heap.size w).alloc (Nat.le_refl _) (.cells #[.int .i64 4000] 3))
  have A0 := hid (ha.call b0.out)
  have q0 : ((n : Int) == 0) = false := by rw [beq_eq_false_iff_ne]; omega
  obtain ⟨k1, d1, rfl, _⟩ := ha.openI
  obtain ⟨len, hlen⟩ : ∃ k, (limbs a).length = k := ⟨_, rfl⟩
  rw [hlen] at A0 ⊢
  clear ha hlen
  rcases (show a = 0 ∨ a = 1 by omega) with rfl | rfl
  · have hz : isZ 0 = true := rfl
    clear hs hn hn2
    go_enter Tryz.func193, Tryz.ntmps193
    go_wp2_with fail
    refine (l_Zero _ _ _ A0.out).mono ?_; rintro e w1 ⟨rfl, rfl⟩
    rw [hz]
    go_wp2_with fail
    go_ret2
    exact ⟨.inl ⟨by rw [hpow.out.1]; exact hpow.out.2, _, rfl, by rw [hpow.out.1]; exact A0.out⟩, b0.out⟩
  · have hz : isZ 1 = false := rfl
    have ho : isO 1 = true := rfl
    clear hs hn hn2
    go_enter Tryz.func193, Tryz.ntmps193
    go_wp2_with fail
    refine (l_Zero _ _ _ A0.out).mono ?_; rintro e w1 ⟨rfl, rfl⟩
    rw [hz]
    go_wp2_with fail
    refine (l_One _ _ _ A0.out).mono ?_; rintro e w1 ⟨rfl, rfl⟩
    rw [ho]
    go_wp2_with fail
    go_ret2
    exact ⟨.inl ⟨by rw [hpow.out.1]; exact hpow.out.2, _, rfl, by rw [hpow.out.1]; exact A0.out⟩, b0.out⟩
set_option maxRecDepth 100000 in
set_option maxHeartbeats 4000000 in
theorem l_Pow_big (w : World) (v : Value) (a N : Nat) (ha : IsN .u64 w v a) (hs : 2 ≤ a) (hl : (limbs a).length ≤ 100000) (hn : 0 < N) (hn2 : N < 18446744073709551616) (hL : Lay w) : Calls Tryz.prog 193 #[v, .int .u64 N, .int .i64 4000] w fun e w' => RetPowU (a ^ N) e w' ∧ Below w.heap.size w w' := by
  have b0 := hid ((Below.refl w.heap.size w).alloc (Nat.le_refl _) (.cells #[.int .i64 4000] 3))
  have A0 := hid (ha.call b0.out); have HA := hid ha
  have q0 : ((N : Int) == 0) = false := by rw [beq_eq_false_iff_ne]; omega
  obtain ⟨k1, d1, rfl, _⟩ := ha.openI
  obtain ⟨len, hlen⟩ : ∃ k, (limbs a).length = k := ⟨_, rfl⟩
  have PI := hid (PowI.start (n := N) hs hn hl)
  rw [hlen] at A0 HA ⊢
  have hz : isZ a = false := decide_eq_false (by omega)
  have ho : isO a = false := decide_eq_false (by omega)
  have HN2 := hid hn2; have HL := hid hL; have HLL := hid hL.lt
  obtain ⟨R, hR⟩ : ∃ R, a ^ N = R := ⟨_, rfl⟩
  rw [hR] at PI ⊢
  clear ha hlen hs hl hn hn2 hL hR
  go_enter Tryz.func193, Tryz.ntmps193
  go_wp2_with fail
  refine (l_Zero _ _ _ A0.out).mono ?_; rintro e w1 ⟨rfl, rfl⟩
  rw [hz]
  clear hz
  go_wp2_with fail
  refine (l_One _ _ _ A0.out).mono ?_; rintro e w1 ⟨rfl, rfl⟩
  rw [ho]
  clear ho
  go_wp2_with fail
  obtain ⟨W0, hW0⟩ : ∃ W0, ((((w.alloc (.cells #[.int .i64 4000] 3)).alloc (.cells #[.int .u64 1] 164)).alloc (.cells #[.slice k1 len d1] 115)).alloc (.cells #[.bool true] 4)) = W0 := ⟨_, rfl⟩
  have b4 : Below w.heap.size w W0 := by rw [← hW0]; exact ((((Below.refl _ _).alloc (Nat.le_refl _) _).alloc (by simp) _).alloc (by simp <;> omega) _).alloc (by simp <;> omega) _
  have x0 : Blk W0 w.heap.size #[.int .i64 4000] 3 := by rw [← hW0]; exact (((Blk.new w _ _).alloc _).alloc _).alloc _
  have x1 : Blk W0 (w.heap.size + 1) #[.int .u64 1] 164 := by rw [← hW0]; exact ((Blk.made _ _ _ (by simp)).alloc _).alloc _
  have x2 : Blk W0 (w.heap.size + 1 + 1) #[.slice k1 len d1] 115 := by rw [← hW0]; exact (Blk.made _ _ _ (by simp)).alloc _
  have x3 : Blk W0 (w.heap.size + 1 + 1 + 1) #[.bool true] 4 := by rw [← hW0]; exact Blk.made _ _ _ (by simp)
  have o0 : IsN .u64 W0 (.slice (some ⟨w.heap.size + 1, 0, none⟩) 1 1) 1 := by
    unfold IsN
    rw [limbs_one]
    exact Row.of_blk (n := 1) (c := 1) x1 rfl (by unfold maxLen; omega) (fun i x hx => by simpa [ints] using hx) (Nat.le_refl _) (by unfold maxLen; omega)
  have P0 : PowS W0 (w.heap.size + 1 + 1) (w.heap.size + 1 + 1 + 1) w.heap.size a true := ⟨⟨_, _, _, x2, HA.out.call b4⟩, x3, x0, by omega, by omega, by omega⟩
  rw [hW0]
  have OO := hid o0; have PP := hid P0; have BB := hid b4
  obtain ⟨bs, hbs⟩ : ∃ b, w.heap.size + 1 + 1 = b := ⟨_, rfl⟩
  rw [hbs] at PP ⊢
  obtain ⟨bf, hbf⟩ : ∃ b, bs + 1 = b := ⟨_, rfl⟩
  rw [hbf] at PP ⊢
  have HBS := hid (show w.heap.size ≤ bs by omega); have HBF := hid (show w.heap.size ≤ bf by omega)
  have e159 : ∀ args w, (callFunc 226 args).run Tryz.prog w = .ok (.enter 226 args) w := enters_of Tryz.func226 (by kernel_rfl) rfl
  clear b4 x0 x1 x2 x3 o0 P0 hW0 hbs hbf A0 b0 q0
  go_loopw [1, 8] (fun nn oo wr => ∃ (n out sq : Nat) (fits : Bool) (a1 : Option Addr) (l1 c1 : Nat), nn = .int .u64 (n : Nat) ∧ oo = .slice a1 l1 c1 ∧ Hid (PowI R sq out n fits) ∧ Hid (IsN .u64 wr (.slice a1 l1 c1) out) ∧ Hid (PowS wr bs bf w.heap.size sq fits) ∧ Hid (Below w.heap.size w wr) ∧ n < 18446744073709551616) (fun nn oo wr => (intOf nn).toNat)
  case atStart => exact ⟨N, 1, a, true, _, _, _, rfl, rfl, PI.out, OO.out, PP.out, BB.out, HN2.out⟩
  case round =>
    obtain ⟨n, out, sq, fits, a1, l1, c1, rfl, rfl, hI, hO, hS, hB, hn⟩ := hrel
    obtain ⟨a2, l2, c2, h1, h2⟩ := hS.out.sq
    have HL1 := hid (HL.out.call hB.out)
    have HO := hid h1; have HV := hid h2; have HF := hid hS.out.fits; have HT := hid hS.out.lim
    have k0 : wr.cell? ⟨bs, 0, none⟩ = some (.slice a2 l2 c2) := h1.cell 0
    have k1 : wr.cell? ⟨bf, 0, none⟩ = some (.bool fits) := hS.out.fits.cell 0
    have k2 : wr.cell? ⟨w.heap.size, 0, none⟩ = some (.int .i64 4000) := hS.out.lim.cell 0
    have HN := hid hn; have HN1 := hid hI.out.n1
    have HLO := hid (limbs_of_digits hI.out.small); have HLS := hid hI.out.lim
    clear h1 h2
    by_cases ho : n % 2 = 1
    · have q1 : (bits BinOp.and IntKind.u64 (n : Int) 1 == 1) = true := by rw [odd_test hn]; exact decide_eq_true ho
      have HO1 := hid ho
      clear ho hn
      go_wp2_with fail
      refine (l_Mul _ _ _ out sq hO.out HV.out (by have := HLO.out; omega) (by have := HLS.out; omega)).mono ?_; rintro e w1 ⟨⟨v1, rfl, hv1⟩, hb1⟩
      have HLM := hid (limbs_mul HLO.out HLS.out)
      obtain ⟨a3, c3, rfl, _⟩ := hv1.openI
      obtain ⟨l3, hl3⟩ : ∃ l, (limbs (out * sq)).length = l := ⟨_, rfl⟩
      rw [hl3] at hv1 ⊢
      have V1 := hid hv1; have F1 := hid (HF.out.call hb1); have T1 := hid (HT.out.call hb1); have B1 := hid (bnext hB.out hb1)
      have S1 : Hid (PowS w1 bs bf w.heap.size sq fits) := ⟨⟨_, _, _, HO.out.call hb1, HV.out.call hb1⟩, F1.out, T1.out, hS.out.n1, hS.out.n2, hS.out.n3⟩
      have m1 : w1.cell? ⟨bf, 0, none⟩ = some (.bool fits) := F1.out.cell 0
      have m2 : w1.cell? ⟨w.heap.size, 0, none⟩ = some (.int .i64 4000) := T1.out.cell 0
      have L1 := hid (HL1.out.call hb1); have B1x := hid hb1
      clear hb1 hv1 k0 k1 k2 hl3
      cases fits
      · go_wp2_with fail
        go_quiet (fail)
        go_wp2_with fail
        go_ret2
        exact ⟨.inr ⟨hI.out.big rfl, rfl⟩, below_drewN B1.out _⟩
      · go_wp2_with fail
        go_region_held3 (fun w' => w'.cell? ⟨bf, 0, none⟩ = some (.bool true) ∧ w'.cell? ⟨w.heap.size, 0, none⟩ = some (.int .i64 4000))
          (first | exact ⟨m1, m2⟩ | exact ⟨F2.out.cell 0, T2.out.cell 0⟩)
          (first
            | (go_at_call 140; refine (l_Digits _ _ (out * sq) (V1.out.call (Below.refl _ _).drew) (L1.out.call (Below.refl _ _).drew) (by have := HLM.out; omega)).mono ?_; rintro e w2 ⟨rfl, hb2⟩; have B2 := hid (show Below w1.heap.size w1 w2 from (Below.refl _ _).drew.trans hb2); have F2 := hid (F1.out.call B2.out); have T2 := hid (T1.out.call B2.out)))
        have S2 : Hid (PowS w2 bs bf w.heap.size sq true) := ⟨⟨_, _, _, (HO.out.call B1x.out).call B2.out, (HV.out.call B1x.out).call B2.out⟩, F2.out, T2.out, hS.out.n1, hS.out.n2, hS.out.n3⟩
        have V2 := hid (V1.out.call B2.out); have L2 := hid (L1.out.call B2.out); have BB2 := hid (bnext B1.out B2.out)
        clear m1 m2
        by_cases hd : 4000 < nDigits (out * sq)
        · have q2 : decide ((4000 : Int) < (nDigits (out * sq) : Nat)) = true := by simp; omega
          have HD := hid hd
          rw [q2]
          clear hd q2
          go_wp2_with fail
          go_ret2
          exact ⟨.inr ⟨hI.out.bigO HD.out, rfl⟩, BB2.out⟩
        · have q2 : decide ((4000 : Int) < (nDigits (out * sq) : Nat)) = false := by simp; omega
          have HD := hid (show nDigits (out * sq) ≤ 4000 by omega)
          rw [q2]
          clear hd q2
          have m1 : w2.cell? ⟨bf, 0, none⟩ = some (.bool true) := F2.out.cell 0
          by_cases h1 : n = 1
          · have HD1 := hid (hI.out.done h1)
            subst h1
            go_wp2_with fail
            go_ret2
            exact ⟨.inl ⟨by rw [← HD1.out]; exact HD.out, _, rfl, by rw [← HD1.out]; exact V2.out⟩, BB2.out⟩
          · have h2 : 1 ≤ n / 2 := by have := HO1.out; omega
            have HN2' := hid h2
            have q3 : ((n : Int) / 2 == 0) = false := by rw [beq_eq_false_iff_ne]; omega
            have HI2 := hid (hI.out.odd rfl HO1.out HD.out h2)
            clear h1 h2
            go_wp2_with fail
            refine (l_Pow1 _ bs bf w.heap.size sq w.heap.size true S2.out HBS.out HBF.out BB2.out.size (hI.out.len rfl) L2.out HLL.out).mono ?_; rintro e w5 ⟨⟨v5, rfl⟩, hp5, hk5, hb5⟩
            have P5 := hid hp5; have O5 := hid (hk5 _ _ _ V2.out); have B5 := hid (BB2.out.trans hb5)
            clear hp5 hk5 hb5
            go_wp2_with fail
            go_roundw
            case rel => exact ⟨n / 2, out * sq, sq * sq, _, _, _, _, by rw [show ((n : Int) / 2) = ((n / 2 : Nat) : Int) by omega], rfl, HI2, O5, P5, B5, by have := HN.out; omega⟩
            case measure => simp [intOf] <;> (have := HN1.out; omega)
    · have q1 : (bits BinOp.and IntKind.u64 (n : Int) 1 == 1) = false := by rw [odd_test hn]; exact decide_eq_false ho
      have h0 : n % 2 = 0 := by omega
      have h2 : 1 ≤ n / 2 := by have := HN1.out; omega
      have q3 : ((n : Int) / 2 == 0) = false := by rw [beq_eq_false_iff_ne]; omega
      have H0 := hid h0
      clear ho hn h0 h2
      cases fits
      · go_wp2_with fail
        go_ret2
        exact ⟨.inr ⟨hI.out.big rfl, rfl⟩, hB.out⟩
      · have HI2 := hid (hI.out.even rfl H0.out)
        go_wp2_with fail
        refine (l_Pow1 _ bs bf w.heap.size sq w.heap.size true hS.out HBS.out HBF.out hB.out.size (hI.out.len rfl) HL1.out HLL.out).mono ?_; rintro e w5 ⟨⟨v5, rfl⟩, hp5, hk5, hb5⟩
        have P5 := hid hp5; have O5 := hid (hk5 _ _ _ hO.out); have B5 := hid (hB.out.trans hb5)
        clear hp5 hk5 hb5
        go_wp2_with fail
        go_roundw
        case rel => exact ⟨n / 2, out, sq * sq, _, _, _, _, by rw [show ((n : Int) / 2) = ((n / 2 : Nat) : Int) by omega], rfl, HI2, O5, P5, B5, by have := HN.out; omega⟩
        case measure => simp [intOf] <;> (have := HN1.out; omega)
theorem l_Pow (w : World) (v : Value) (a n : Nat) (ha : IsN .u64 w v a) (hl : (limbs a).length ≤ 100000) (hn2 : n < 18446744073709551616) (hL : Lay w) : Calls Tryz.prog 193 #[v, .int .u64 n, .int .i64 4000] w fun e w' => RetPowU (a ^ n) e w' ∧ Below w.heap.size w w' := by
  rcases Nat.eq_zero_or_pos n with rfl | hn
  · exact l_Pow_zero w v a ha
  · by_cases h : a ≤ 1
    · exact l_Pow_small w v a n ha h hn hn2
    · exact l_Pow_big w v a n ha (by omega) hl hn hn2 hL
end Go.Proofs.YtpheklgnmbpobaaGreatDoor
namespace Go.Proofs.YtpheklgnmbpobaaGreatDoor
open Go.RowKit
open Go.Lib (decDigits nDigits)
set_option linter.unusedVariables false
set_option linter.unusedSimpArgs false
set_option maxRecDepth 100000 in
set_option maxHeartbeats 1000000 in
theorem n_Pow_ok (w : World) (s : ByteArray) (n : Nat) (hs : errN s.data.toList = 0) (hn : n ≤ 9223372036854775807) (hd : nDigits (bN s ^ n) ≤ 4000) (hL : Lay w) :
    Calls Tryz.prog 149 #[.string s, .int .i64 n] w fun e w' => e = .returned (.tuple #[.string (numB (bN s ^ n)), .int .i64 0]) ∧ Below w.heap.size w w' := by
  obtain ⟨d1, d2, d3⟩ := errN_dig hs
  have HC := fun V => hid (n_Check V s (by omega))
  rw [hs] at HC
  have HP := fun V => hid (l_Parse V s d1 (by omega))
  have hdv : dv s.data.toList = bN s := rfl
  rw [hdv] at HP
  have HW := fun V v hv hL => hid (l_Pow V v (bN s) n hv (by omega) (by omega) hL)
  have HR := fun V v hv hL => hid (n_result V v (bN s ^ n) hv (by have := limbs_of_digits hd; omega) hL)
  have e1 : resB (bN s ^ n) = numB (bN s ^ n) := by rw [resB, if_neg (by omega)]
  have e2 : resE (bN s ^ n) = 0 := by rw [resE, if_neg (by omega)]
  rw [e1, e2] at HR
  obtain ⟨R, hR⟩ : ∃ R, bN s ^ n = R := ⟨_, rfl⟩
  rw [hR] at HW HR hd ⊢
  have HD := hid hd; have HL := hid hL
  have hn0 : (0 : Int) ≤ (n : Int) := by omega
  have hn1 : (n : Int) ≤ 9223372036854775807 := by omega
  have q0 : decide ((n : Int) < 0) = false := by simp
  clear hs hn d1 d2 d3 hdv e1 e2 hR hd hL
  go_enter Tryz.func149, Tryz.ntmps149
  go_wp2_with fail
  refine (HC _).out.mono ?_; rintro e w1 ⟨rfl, hb1⟩
  have b1 := hid hb1; clear hb1
  go_wp2_with fail
  refine (HP _).out.mono ?_; rintro e w2 ⟨⟨v2, rfl, hv2⟩, hb2⟩
  have b2 := hid (bnext b1.out hb2); have V2 := hid hv2; clear hb2 hv2
  go_wp2_with fail
  refine (HW _ _ V2.out (HL.out.call b2.out)).out.mono ?_
  rintro e w3 ⟨h3, hb3⟩
  rcases h3 with ⟨-, v3, rfl, hv3⟩ | ⟨h3, -⟩
  · have b3 := hid (bnext b2.out hb3); have V3 := hid hv3; clear hb3 hv3
    go_wp2_with fail
    refine (HR _ _ V3.out (HL.out.call b3.out)).out.mono ?_; rintro e w4 ⟨rfl, hb4⟩
    have b4 := hid (bnext b3.out hb4); clear hb4
    go_wp2_with fail
    go_ret2
    exact ⟨rfl, b4.out⟩
  · exact absurd h3 (by have := HD.out; omega)
end Go.Proofs.YtpheklgnmbpobaaGreatDoor
namespace Go.Proofs.YtpheklgnmbpobaaGreatDoor
open Go.RowKit
set_option linter.unusedVariables false
def lwS (ws : List Nat) (t : Nat) : Nat → Nat
  | 0 => 0
  | i + 1 => lwS ws t i + cnt ws t i
theorem cntF_le {ws : List Nat} (t : Nat) {i : Nat} (h : 0 < ws.sum) : cntF ws t i ≤ t := by
  have hp := pre_sum ws i
  have h1 : pre ws i * t ≤ ws.sum * t := Nat.mul_le_mul_right _ hp
  have h2 : pre ws i * t / ws.sum ≤ t := Nat.div_le_of_le_mul h1
  unfold cntF
  by_cases h0 : pre ws i * t % ws.sum = 0
  · rw [if_neg (by simpa using h0)]; exact h2
  · rw [if_pos h0]
    rcases Nat.lt_or_ge (pre ws i * t / ws.sum) t with h3 | h3
    · exact h3
    · exfalso
      have h4 := Nat.div_add_mod (pre ws i * t) ws.sum
      have h5 : ws.sum * t ≤ ws.sum * (pre ws i * t / ws.sum) := Nat.mul_le_mul_left _ h3
      omega
theorem cntF_mono (ws : List Nat) (t i : Nat) (h : 0 < ws.sum) : cntF ws t i ≤ cntF ws t (i + 1) := by
  have hp : pre ws i * t ≤ pre ws (i + 1) * t := Nat.mul_le_mul_right _ (pre_le ws i 1)
  have h1 := Nat.div_le_div_right (c := ws.sum) hp
  unfold cntF
  by_cases h2 : pre ws (i + 1) * t % ws.sum = 0
  · by_cases h3 : pre ws i * t % ws.sum = 0
    · simp only [h2, h3, ne_eq, not_true_eq_false, if_false]; omega
    · simp only [h2, h3, ne_eq, not_true_eq_false, not_false_eq_true, if_false, if_true]
      rcases Nat.lt_or_ge (pre ws i * t / ws.sum) (pre ws (i + 1) * t / ws.sum) with h4 | h4
      · omega
      · exfalso
        have e1 := Nat.div_add_mod (pre ws i * t) ws.sum
        have e2 := Nat.div_add_mod (pre ws (i + 1) * t) ws.sum
        have e3 : ws.sum * (pre ws (i + 1) * t / ws.sum) ≤ ws.sum * (pre ws i * t / ws.sum) := Nat.mul_le_mul_left _ h4
        omega
  · simp only [h2, ne_eq, not_false_eq_true, if_true]
    split <;> omega
theorem cntE_le (ws : List Nat) (t i : Nat) : cntE ws t i ≤ cntF ws t (i + 1) := by unfold cntE cntF; omega
theorem lwS_le (ws : List Nat) (t : Nat) (h : 0 < ws.sum) : ∀ i, lwS ws t i ≤ cntF ws t i
  | 0 => Nat.zero_le _
  | i + 1 => by
    have h1 := lwS_le ws t h i
    have h2 := cntF_mono ws t i h
    have h3 := cntE_le ws t i
    unfold lwS cnt
    omega
theorem cnt_le (ws : List Nat) (t i : Nat) (h : 0 < ws.sum) : cnt ws t i ≤ t - lwS ws t i := by
  have h1 := lwS_le ws t h (i + 1)
  have h2 := cntF_le t h (i := i + 1)
  unfold lwS at h1
  omega
theorem lwS_fit (ws : List Nat) (t i : Nat) (h : 0 < ws.sum) : lwS ws t i ≤ t := Nat.le_trans (lwS_le ws t h i) (cntF_le t h)
end Go.Proofs.YtpheklgnmbpobaaGreatDoor
namespace Go.Proofs.YtpheklgnmbpobaaGreatDoor
open Go.RowKit Go.Shelf
open Go.Lib (decDigits nDigits)
set_option linter.unusedVariables false
set_option linter.unusedSimpArgs false
set_option maxRecDepth 100000 in
set_option maxHeartbeats 1000000 in
theorem pk_less (w : World) (x y : Nat) (hx : nDigits x ≤ 4000) (hy : nDigits y ≤ 4000) (h : y ≤ x) (hL : Lay w) :
    Calls Tryz.prog 151 #[.string (numB x), .string (numB y)] w fun e w' => e = .returned (.string (numB (x - y))) ∧ Below w.heap.size w w' := by
  have h2 := n_Sub w (numB x) (numB y) (numB_sz hx) (numB_sz hy) hL
  have h3 : ¬ 4000 < nDigits (x - y) := by have := nDigits_mono (show x - y ≤ x by omega); omega
  have e1 : pairB (subB (bN (numB x)) (bN (numB y))) (numB x) (numB y) = numB (x - y) := by
    rw [bN_num, bN_num, pairB, if_pos ⟨errN_numB hx, errN_numB hy⟩, subB, if_neg (by omega), resB, if_neg h3]
  have e2 : pairE (subE (bN (numB x)) (bN (numB y))) (numB x) (numB y) = 0 := by
    rw [bN_num, bN_num, pairE, if_pos (errN_numB hx), if_pos (errN_numB hy), subE, if_neg (by omega), resE, if_neg h3]
  rw [e1, e2] at h2
  have P := hid h2
  generalize numB x = A at *
  generalize numB y = B at *
  generalize numB (x - y) = C at *
  clear h2 h3 e1 e2 hx hy h hL
  go_enter Tryz.func151, Tryz.ntmps151
  go_wp2_with fail
  refine P.out.mono ?_; rintro e w1 ⟨rfl, hb1⟩
  go_wp2_with fail
  go_ret
  exact ⟨rfl, hb1⟩
def shB (m t : Nat) : ByteArray := outB (qmk false m t)
theorem pk_make (w : World) (m t : Nat) (hm : nDigits m ≤ 4000) (ht : nDigits t ≤ 4000) (h0 : t ≠ 0) (hL : Lay w) :
    Calls Tryz.prog 41 #[.string (numB m), .string (numB t)] w fun e w' => e = .returned (.tuple #[.string (shB m t), .int .i64 (outE (qmk false m t))]) ∧ Below w.heap.size w w' := by
  have h := q_Make w (numB m) (numB t) (numB_sz hm) (numB_sz ht) hL
  have e := mk_num hm ht h0
  rwa [e.1, e.2] at h
theorem pk_pow2 (w : World) (n : Nat) (hn : n ≤ 256) (hL : Lay w) :
    Calls Tryz.prog 149 #[.string ⟨#[50]⟩, .int .i64 (n : Nat)] w fun e w' => e = .returned (.tuple #[.string (numB (2 ^ n)), .int .i64 0]) ∧ Below w.heap.size w w' := by
  have e2 : (⟨#[50]⟩ : ByteArray) = numB 2 := by unfold numB; rw [decDigits_small (by omega)]; rfl
  have hd := two_nd (u := n) (by omega)
  have h := n_Pow_ok w (numB 2) n (errN_numB (by rw [Go.Lib.nDigits_small (by omega)]; omega)) (by omega) (by rw [bN_num]; omega) hL
  rw [bN_num] at h
  rw [e2]
  exact h
end Go.Proofs.YtpheklgnmbpobaaGreatDoor
namespace Go.Proofs.YtpheklgnmbpobaaGreatDoor
open Go.RowKit Go.Shelf
open Go.Lib (decDigits nDigits)
set_option linter.unusedVariables false
set_option linter.unusedSimpArgs false
structure MRow (w : World) (v : Value) (L : List (ByteArray × ByteArray)) : Prop where
  ex : ∃ a c, v = .slice a L.length c ∧ L.length ≤ c ∧ c ≤ 9223372036854775807 ∧ ∀ (i : Nat) (x : ByteArray × ByteArray), L[i]? = some x → ∃ g o, a = some ⟨g, o, none⟩ ∧ g < w.heap.size ∧ w.cell? ⟨g, o + 2 * i, none⟩ = some (.string x.1) ∧ w.cell? ⟨g, o + 2 * i + 1, none⟩ = some (.string x.2)
theorem MRow.call {w w' : World} {v : Value} {L : List (ByteArray × ByteArray)} (h : MRow w v L) (hb : Below w.heap.size w w') : MRow w' v L := by
  obtain ⟨a, c, rfl, h1, h2, h3⟩ := h.ex
  refine ⟨a, c, rfl, h1, h2, fun i x hx => ?_⟩
  obtain ⟨g, o, rfl, hg, k1, k2⟩ := h3 i x hx
  exact ⟨g, o, rfl, Nat.lt_of_lt_of_le hg hb.size, (hb.cell (p := ⟨g, o + 2 * i, none⟩) hg).trans k1, (hb.cell (p := ⟨g, o + 2 * i + 1, none⟩) hg).trans k2⟩
theorem MRow.nil (w : World) : MRow w (.slice none 0 0) [] := ⟨none, 0, rfl, Nat.le_refl _, by omega, fun i x h => by simp at h⟩
theorem ne_tl {x y : ByteArray} (h : ¬ x = y) : ¬ x.toList = y.toList := fun e => h (by
  rw [Lib.toList_data, Lib.toList_data] at e
  exact ba_ext e)
set_option maxRecDepth 100000 in
set_option maxHeartbeats 2000000 in
theorem k_SameM (w : World) (v u : Value) (L M : List (ByteArray × ByteArray)) (hv : MRow w v L) (hu : MRow w u M) :
    Calls Tryz.prog 25 #[v, u] w fun e w' => e = .returned (.bool (decide (L = M))) ∧ Below w.heap.size w w' := by
  obtain ⟨a, c, rfl, h1, h2, h3⟩ := hv.ex
  obtain ⟨a', c', rfl, h1', h2', h3'⟩ := hu.ex
  obtain ⟨n, hn⟩ : ∃ n, L.length = n := ⟨_, rfl⟩
  obtain ⟨m, hm⟩ : ∃ n, M.length = n := ⟨_, rfl⟩
  rw [hn] at h1 ⊢
  rw [hm] at h1' ⊢
  have H3 := hid h3; have H3' := hid h3'; have HN := hid hn; have HM := hid hm
  clear hv hu h3 h3'
  by_cases hnm : n = m
  · subst hnm
    have q0 : ((n : Int) != (n : Int)) = false := by simp
    clear hn hm
    go_enter Tryz.func25, Tryz.ntmps25
    go_wp2_with fail
    go_loopw [5] (fun ii wr => ∃ i : Nat, ii = .int .i64 (i : Nat) ∧ i ≤ n ∧ Hid (∀ j, j < i → L[j]? = M[j]?) ∧ Hid (Below w.heap.size w wr)) (fun ii wr => n - (intOf ii).toNat)
    case atStart => exact ⟨0, rfl, Nat.zero_le _, fun j hj => absurd hj (by omega), Below.refl _ _⟩
    case round =>
      obtain ⟨i, rfl, hi, hI, hB⟩ := hrel
      by_cases hlt : i < n
      · obtain ⟨x, hx⟩ : ∃ x, L[i]? = some x := ⟨_, List.getElem?_eq_getElem (by rw [HN.out]; exact hlt)⟩
        obtain ⟨y, hy⟩ : ∃ x, M[i]? = some x := ⟨_, List.getElem?_eq_getElem (by rw [HM.out]; exact hlt)⟩
        obtain ⟨g, o, rfl, hg, k1, k2⟩ := H3.out i x hx
        obtain ⟨g', o', rfl, hg', k1', k2'⟩ := H3'.out i y hy
        obtain ⟨x1, x2⟩ := x
        obtain ⟨y1, y2⟩ := y
        have HX := hid hx; have HY := hid hy
        have m1 := (hB.out.cell (p := ⟨g, o + 2 * i, none⟩) hg).trans k1
        have m2 := (hB.out.cell (p := ⟨g, o + 2 * i + 1, none⟩) hg).trans k2
        have m3 := (hB.out.cell (p := ⟨g', o' + 2 * i, none⟩) hg').trans k1'
        have m4 := (hB.out.cell (p := ⟨g', o' + 2 * i + 1, none⟩) hg').trans k2'
        dsimp only at m1 m2 m3 m4
        rw [Nat.mul_comm 2 i] at m1 m2 m3 m4
        have b1 : (0 : Int) ≤ (i : Int) := by omega
        have b2 : (i : Int) < (n : Int) := by omega
        have wi : IntKind.i64.wrap ((i : Int) + 1) = (i : Int) + 1 := by rw [IntWalk.i64_in _ ⟨by omega, by omega⟩]
        clear k1 k2 k1' k2' hx hy hg hg'
        by_cases he1 : x1 = y1
        · subst he1
          by_cases he2 : x2 = y2
          · subst he2
            go_wp2_with fail
            refine held_plain [0, 1, 2, 3, 4, 5, 6, 7, 8] 0 (fun w' => w'.cell? ⟨g, o + i * 2, none⟩ = some (.string x1) ∧ w'.cell? ⟨g, o + i * 2 + 1, none⟩ = some (.string x2) ∧ w'.cell? ⟨g', o' + i * 2, none⟩ = some (.string x1) ∧ w'.cell? ⟨g', o' + i * 2 + 1, none⟩ = some (.string x2)) (by kernel_rfl) (by kernel_rfl) (by kernel_rfl) (by kernel_rfl) ⟨m1, m2, m3, m4⟩ ?_
            iterate 9
              refine ⟨_, rfl, ?_⟩
              apply Exists.intro
              refine ⟨.inl ⟨by rfl, ?_⟩, ?_⟩
              · (intro W' hW'; obtain ⟨q1, q2, q3, q4⟩ := hW'; go_simp; try (with_reducible rfl))
              (dsimp only [Act.put]; try simp only [List.setIfInBounds_toArray, List.set_cons_zero, List.set_cons_succ])
            refine wpAnyH_done (by kernel_rfl) ?_ _
            simp only [Only]
            go_wp2_with fail
            go_roundw
            case rel => exact ⟨i + 1, rfl, by omega, fun j hj => by
              rcases Nat.lt_or_ge j i with h | h
              · exact hI.out j h
              · obtain rfl : j = i := by omega
                rw [HX.out, HY.out], hB.out.drew⟩
            case measure => simp [intOf] <;> omega
          · have n2 := ne_tl he2
            have hne : decide (L = M) = false := by
              rw [decide_eq_false_iff_not]; rintro rfl
              have := HX.out.symm.trans HY.out
              simp only [Option.some.injEq, Prod.mk.injEq] at this
              exact he2 this.2
            have HNE := hid hne
            clear hne he2
            go_wp2_with fail
            refine held_plain [0, 1, 2, 3, 4, 5, 6, 7, 8] 0 (fun w' => w'.cell? ⟨g, o + i * 2, none⟩ = some (.string x1) ∧ w'.cell? ⟨g, o + i * 2 + 1, none⟩ = some (.string x2) ∧ w'.cell? ⟨g', o' + i * 2, none⟩ = some (.string x1) ∧ w'.cell? ⟨g', o' + i * 2 + 1, none⟩ = some (.string y2)) (by kernel_rfl) (by kernel_rfl) (by kernel_rfl) (by kernel_rfl) ⟨m1, m2, m3, m4⟩ ?_
            iterate 9
              refine ⟨_, rfl, ?_⟩
              apply Exists.intro
              refine ⟨.inl ⟨by rfl, ?_⟩, ?_⟩
              · (intro W' hW'; obtain ⟨q1, q2, q3, q4⟩ := hW'; go_simp; try (with_reducible rfl))
              (dsimp only [Act.put]; try simp only [List.setIfInBounds_toArray, List.set_cons_zero, List.set_cons_succ])
            refine wpAnyH_done (by kernel_rfl) ?_ _
            simp only [Only]
            go_wp2_with fail
            go_ret
            exact ⟨by rw [HNE.out]; rfl, hB.out.drew⟩
        · have n1 := ne_tl he1
          have hne : decide (L = M) = false := by
            rw [decide_eq_false_iff_not]; rintro rfl
            have := HX.out.symm.trans HY.out
            simp only [Option.some.injEq, Prod.mk.injEq] at this
            exact he1 this.1
          have HNE := hid hne
          clear hne he1
          go_wp2_with fail
          refine held_plain [0, 1, 2, 3, 4, 5, 6, 7, 8] 0 (fun w' => w'.cell? ⟨g, o + i * 2, none⟩ = some (.string x1) ∧ w'.cell? ⟨g, o + i * 2 + 1, none⟩ = some (.string x2) ∧ w'.cell? ⟨g', o' + i * 2, none⟩ = some (.string y1) ∧ w'.cell? ⟨g', o' + i * 2 + 1, none⟩ = some (.string y2)) (by kernel_rfl) (by kernel_rfl) (by kernel_rfl) (by kernel_rfl) ⟨m1, m2, m3, m4⟩ ?_
          iterate 9
            refine ⟨_, rfl, ?_⟩
            apply Exists.intro
            refine ⟨.inl ⟨by rfl, ?_⟩, ?_⟩
            · (intro W' hW'; obtain ⟨q1, q2, q3, q4⟩ := hW'; go_simp; try (with_reducible rfl))
            (dsimp only [Act.put]; try simp only [List.setIfInBounds_toArray, List.set_cons_zero, List.set_cons_succ])
          refine wpAnyH_done (by kernel_rfl) ?_ _
          simp only [Only]
          go_wp2_with fail
          go_ret
          exact ⟨by rw [HNE.out]; rfl, hB.out.drew⟩
      · obtain rfl : i = n := by omega
        have hE : L = M := by
          apply List.ext_getElem?
          intro j
          by_cases hj : j < i
          · exact hI.out j hj
          · rw [List.getElem?_eq_none (by rw [HN.out]; omega), List.getElem?_eq_none (by rw [HM.out]; omega)]
        have HE := hid hE
        have q1 : decide ((i : Int) < (i : Int)) = false := by simp
        clear hlt hE
        go_wp2_with fail
        go_ret
        exact ⟨by rw [decide_eq_true HE.out]; rfl, hB.out⟩
  · have q0 : ((n : Int) != (m : Int)) = true := by rw [bne_iff_ne]; omega
    have hne : decide (L = M) = false := by
      rw [decide_eq_false_iff_not]; rintro rfl; exact hnm (hn.symm.trans hm)
    have HNE := hid hne
    clear hne hnm hn hm
    go_enter Tryz.func25, Tryz.ntmps25
    go_wp2_with fail
    go_ret
    exact ⟨by rw [HNE.out]; rfl, Below.refl _ _⟩
end Go.Proofs.YtpheklgnmbpobaaGreatDoor
namespace Go.Proofs.YtpheklgnmbpobaaGreatDoor
open Go.RowKit Go.Shelf Go.Maps
open Go.Lib (decDigits nDigits)
set_option linter.unusedVariables false
set_option linter.unusedSimpArgs false
attribute [local go_sem] Oper.semAt_some
theorem sum_pos {l : List Nat} {x : Nat} (h : x ∈ l) (hx : x ≠ 0) : 0 < l.sum := by
  induction l with
  | nil => simp at h
  | cons a r ih =>
    rw [List.sum_cons]
    rcases List.mem_cons.1 h with rfl | h
    · omega
    · have := ih h; omega
theorem wsE_pos {l : List ByteArray} (h : wsE l = 0) : 0 < (l.map bN).sum := by
  obtain ⟨D1, -, -⟩ := wsE_ok h
  unfold wsE at h
  split at h
  · exact absurd h (by decide)
  · split at h
    · rename_i h2 h3; exact absurd h h3
    · split at h
      · rename_i h4
        obtain ⟨b, hb, hb2⟩ := List.any_eq_true.1 h4
        refine sum_pos (List.mem_map_of_mem hb) fun e => ?_
        have hb3 : b ≠ ⟨#[48]⟩ := by simpa using hb2
        obtain ⟨i, hi⟩ := List.getElem?_of_mem hb
        have e1 : ((l.map bN).map numB)[i]? = some (numB (bN b)) := by rw [List.getElem?_map, List.getElem?_map, hi]; rfl
        rw [← D1, hi] at e1
        apply hb3
        rw [Option.some.inj e1, e, numB_zero]
      · exact absurd h (by decide)
theorem lawKeyed : Keyed Tryz.prog 9 := string_keyed Tryz.underlying9
def lawD {H : Type} (ws : List Nat) (t : Nat) : Nat → DataW H
  | 0 => .map []
  | i + 1 => if cntF ws t i < cntE ws t i then (lawD ws t i).put (.string (numB i).data.toList) (.lit (.string (shB (cnt ws t i) t).data.toList)) else lawD ws t i
def lateB : ByteArray := ⟨#[108, 97, 116, 101]⟩
def lawM {H : Type} (ws : List Nat) (t N : Nat) : DataW H := if t - lwS ws t N = 0 then lawD ws t N else (lawD ws t N).put (.string [108, 97, 116, 101]) (.lit (.string (shB (t - lwS ws t N) t).data.toList))
theorem outB_size (q : Rat) : (outB q).size ≤ 10000 := by
  unfold outB
  split
  · exact (by decide : (0 : Nat) ≤ 10000)
  · rename_i h
    unfold ovQ at h
    have h1 := list_size (txQ q)
    unfold txQ at h1 ⊢
    rw [txB_list] at h1
    rw [← h1]
    simp only [List.length_append, Lib.decDigits_length]
    have e1 : (if decide (q.num < 0) = true then [45] else ([] : List UInt8)).length ≤ 1 := by split <;> simp
    have e2 : (if q.den = 1 then [] else (47 : UInt8) :: decDigits q.den).length ≤ 4001 := by
      split
      · simp
      · simp only [List.length_cons, Lib.decDigits_length]; omega
    omega
theorem shB_size (m t : Nat) : (shB m t).size ≤ maxLen := Nat.le_trans (outB_size _) (by unfold maxLen; decide)
theorem held_wide {P : Program} {Q : Exit → Act → World → Prop} {n : Nat} {id : Nat} {a : Act} {w : World} {l : List Oper} (S : World → Prop) (hm : P.follows .mixedOrders = true)
    (h : wpAnyH P .any l.toArray (Only Q) S l.toArray.size (Array.replicate l.toArray.size false) a { w with drawn := w.drawn + 1 }) : (Code.region id l.toArray true).wpIn Fence.wide n P Q a w :=
  wpIn_region_any hm (any_plain _ _ _ _ (wpAny_of_held _ _ _ _ h))
def LawI {H : Type} (T t : Nat) (ws : List Nat) (p : List (ByteArray × ByteArray)) (W : World) : Prop := p.length ≤ ws.length ∧ W.ownsMap Tryz.prog 9 (plainElem Tryz.prog 22) (T + 1 + 1) p.length (lawD (H := H) ws t p.length) ∧
  Blk W (T + 1) #[.string (numB (t - lwS ws t p.length))] 22 ∧ Blk W (T + 1 + 1 + 1 + 1) #[.int .i64 (p.length : Nat)] 3
theorem LawI.own {H : Type} {T t C : Nat} {ws : List Nat} (hC : T + 1 + 1 < C) : OwnFrom C (LawI (H := H) T t ws) := by
  rintro s X Y row ⟨h1, h2, h3, h4⟩ hg hr
  exact ⟨h1, h2.kept hg (fun e => by have := (hr _ e.symm).1; omega), h3.kept hg (fun r e => (hr r e).2), h4.kept hg (fun r e => (hr r e).2)⟩
set_option maxRecDepth 100000 in
set_option maxHeartbeats 4000000 in
theorem p_law {H : Type} (w : World) (v : Value) (l : List ByteArray) (n : Nat) (hv : Row w v (strs l)) (hl : ∀ x ∈ l, x.size ≤ 1000000) (he : wsE l = 0) (hn : n ≤ 256) (hL : Lay w) :
    Calls Tryz.prog 110 #[v, .int .i64 (n : Nat)] w fun e w' => (∃ B, e = .returned (.tuple #[.map (some B), .int .i64 0]) ∧ w'.ownsMap Tryz.prog 9 (plainElem Tryz.prog 22) B (l.length + 1) (lawM (H := H) (l.map bN) (2 ^ n) l.length)) ∧ Below w.heap.size w w' := by
  have PC := fun V hV => hid (p_check V v l hV hl)
  have PE := fun V hws hV hLV => hid (p_ends V v (l.map bN) hws hV hLV)
  have PP := fun V hLV => hid (pk_pow2 V n hn hLV)
  obtain ⟨D1, D2, D3⟩ := wsE_ok he
  have he' := he
  rw [he] at PC
  have HL := hid hL; have HV := hid hv
  obtain ⟨a, c, rfl, q1, q2, -⟩ := hv.openS
  obtain ⟨N, hN⟩ : ∃ N, l.length = N := ⟨_, rfl⟩
  have HN := hid hN
  obtain ⟨ws, hws⟩ : ∃ ws, l.map bN = ws := ⟨_, rfl⟩
  have hlen : ws.length = N := by rw [← hws, List.length_map]; exact hN
  rw [hws] at PE D1 D2 ⊢
  rw [hN] at PC PE q1 HV D3 ⊢
  have HWS := hid D2; have HD1 := hid D1
  have HPOS : Hid (0 < ws.sum) := by rw [← hws]; exact wsE_pos he'
  obtain ⟨m, rfl⟩ : ∃ m, N = m + 1 := ⟨N - 1, by omega⟩
  have HLEN := hid hlen
  have hm : m < 64 := by have := D2.len; omega
  clear hv hL hl hN D1 D2 D3 hws hlen he he'
  have s1 : decide ((n : Int) < 0) = false := by simp
  have s2 : decide ((256 : Int) < (n : Int)) = false := by simp; omega
  obtain ⟨T0, hT0⟩ : ∃ s, numB (2 ^ n) = s := ⟨_, rfl⟩
  have HT0 := hid hT0
  rw [hT0] at PP
  have hmm := @run_makeMap Tryz.prog
  clear hT0
  refine (callsIn_wide (n := 9)).1 ?_
  refine callsIn_of_wp_marks Tryz.func110 rfl trivial ?_ rfl
  simp only [Tryz.ntmps110, List.size_toArray, List.length_cons, List.length_nil, Nat.reduceAdd, Nat.reduceSub, Array.replicate_succ, Array.replicate_zero, List.push_toArray, List.append_toArray, List.nil_append, List.cons_append]
  gi_wp2_with (refine ⟨trivial, ?_⟩; gi_at_call 70; refine (callsIn_wide.2 (PC _ HV.out).out).mono ?_; rintro e w1 ⟨rfl, hb1⟩
               have y1 := hid hb1; clear hb1)
  refine ⟨trivial, ?_⟩
  refine (callsIn_wide.2 (PE _ HWS.out (by rw [← HD1.out]; exact HV.out.call y1.out) (HL.out.call y1.out)).out).mono ?_; rintro e w2 ⟨⟨u, rfl, hu⟩, hb2⟩
  have y2 := hid (bnext y1.out hb2)
  clear hb2
  have hu2 := hid hu
  obtain ⟨a5, c5, rfl, r1, r2, r3⟩ := hu.openS
  rw [endL_length] at hu2 r1 ⊢
  obtain ⟨g, o, rfl, hg, hc⟩ := r3 m _ (endL_get (by rw [HLEN.out]; omega))
  rw [pre_all (by rw [HLEN.out]; omega)] at hc
  rw [HLEN.out] at r1 ⊢
  obtain ⟨S0, hS0⟩ : ∃ s, numB ws.sum = s := ⟨_, rfl⟩
  have HS0 := hid hS0
  rw [hS0] at hc
  have e1 : IntKind.i64.wrap (((m + 1 : Nat) : Int) - 1) = (m : Int) := by rw [IntWalk.i64_in _ ⟨by omega, by omega⟩]; omega
  have b1 : (0 : Int) ≤ (m : Int) := by omega
  have b2 : (m : Int) < (m : Int) + 1 := by omega
  clear hu hu2 r3 hS0
  gi_wp2_with fail
  have A3 := hid ((Below.refl w2.heap.size w2).alloc (Nat.le_refl _) (.cells #[.string S0] 22))
  have X3 := hid (Blk.new w2 #[.string S0] 22)
  refine ⟨trivial, ?_⟩
  refine (callsIn_wide.2 (PP _ ((HL.out.call y2.out).call A3.out)).out).mono ?_; rintro e w3 ⟨rfl, hb3⟩
  have X4 := hid (X3.out.call hb3)
  have y3 := hid (bnext y2.out (A3.out.trans (hb3.mono A3.out.size)))
  have hlt := hid (show w2.heap.size < w3.heap.size from X4.out.lt)
  clear hb3 hc hg
  gi_wp2_with fail
  refine ⟨trivial, ?_⟩
  refine (callsIn_wide.2 (p_scan _ _ _ _)).mono ?_; rintro e w' ⟨rfl, rfl⟩
  gi_wp2_with fail
  obtain ⟨W0, hW0⟩ : ∃ W0, ((((((w3.alloc (.cells #[.string T0] 22)).alloc (.cells #[.string T0] 22)).alloc (.map #[] 0)).alloc (.cells #[.map (some (w3.heap.size + 1 + 1))] 95)).alloc (.cells #[.int .i64 0] 3)).alloc (.cells #[.slice a (m + 1) c] 36)) = W0 := ⟨_, rfl⟩
  have d0 : Blk W0 w3.heap.size #[.string T0] 22 := by rw [← hW0]; exact (((((Blk.new w3 _ _).alloc _).alloc _).alloc _).alloc _).alloc _
  have d1 : Blk W0 (w3.heap.size + 1) #[.string T0] 22 := by rw [← hW0]; exact ((((Blk.made _ _ _ (by simp)).alloc _).alloc _).alloc _).alloc _
  have d2 : W0.ownsMap Tryz.prog 9 (plainElem (H := H) Tryz.prog 22) (w3.heap.size + 1 + 1) 0 (.map []) := by
    rw [← hW0]
    have h := World.ownsMap_made (H := H) ((w3.alloc (.cells #[.string T0] 22)).alloc (.cells #[.string T0] 22)) Tryz.prog 9 (plainElem Tryz.prog 22)
    simp only [World.size_alloc] at h
    exact ((h.alloc _).alloc _).alloc _
  have d3 : Blk W0 (w3.heap.size + 1 + 1 + 1) #[.map (some (w3.heap.size + 1 + 1))] 95 := by rw [← hW0]; exact ((Blk.made _ _ _ (by simp)).alloc _).alloc _
  have d4 : Blk W0 (w3.heap.size + 1 + 1 + 1 + 1) #[.int .i64 0] 3 := by rw [← hW0]; exact (Blk.made _ _ _ (by simp)).alloc _
  have d5 : Blk W0 (w3.heap.size + 1 + 1 + 1 + 1 + 1) #[.slice a (m + 1) c] 36 := by rw [← hW0]; exact Blk.made _ _ _ (by simp)
  have d6 : Below w3.heap.size w3 W0 := by
    rw [← hW0]
    exact ((((((Below.refl _ _).alloc (Nat.le_refl _) _).alloc (by simp) _).alloc (by simp <;> omega) _).alloc (by simp <;> omega) _).alloc (by simp <;> omega) _).alloc (by simp <;> omega) _
  have d7 : W0.heap.size = w3.heap.size + 1 + 1 + 1 + 1 + 1 + 1 := by rw [← hW0]; simp
  rw [hW0]
  have d8 : Blk W0 w2.heap.size #[.string S0] 22 := X4.out.call d6
  have Y0 := hid d0; have Y1 := hid d1; have Y2 := hid d2; have Y3 := hid d3; have Y4 := hid d4; have Y5 := hid d5; have HB0 := hid d6; have Z0 := hid d7; have Y8 := hid d8
  clear d0 d1 d2 d3 d4 d5 d6 d7 d8 hW0
  obtain ⟨T, hT⟩ : ∃ T, w3.heap.size = T := ⟨_, rfl⟩
  rw [hT] at Y0 Y1 Y2 Y3 Y4 Y5 HB0 Z0 hlt ⊢
  have HTT := hid hT
  clear hT
  have hread : ∀ W1 W2, Below W0.heap.size W0 W1 → KpE (T + 1) (T + 1 + 1 + 1 + 1 + 1) W1 W2 → W2.cell? ⟨T + 1 + 1 + 1 + 1 + 1, 0, none⟩ = some (.slice a (m + 1) c) ∧ Row W2 (.slice a (m + 1) c) (strs (ws.map numB)) ∧ Lay W2 := fun W1 W2 b1 b2 => by
    have hs := b1.size
    have hz := Z0.out
    obtain ⟨r1, r2⟩ := b2.rest (by omega) (by omega)
    have g1 : Blk W2 (T + 1 + 1 + 1 + 1 + 1) #[.slice a (m + 1) c] 36 := r2.trans (Y5.out.call b1)
    have hb : Below w.heap.size w W2 := by
      have k1 := y3.out
      have k2 := HB0.out
      have k3 := k1.size
      have k4 := HTT.out
      exact ((k1.trans (k2.mono (by omega))).trans (b1.mono (by omega))).trans (r1.mono (by omega))
    exact ⟨g1.cell 0, by rw [← HD1.out]; exact HV.out.call hb, HL.out.call hb⟩
  refine range_ok (by omega) (gf := 156) (lb := #[.pointer (some ⟨T + 1 + 1 + 1 + 1 + 1, 0, none⟩)]) rfl (enters_of Tryz.func156 (by kernel_rfl) rfl)
    (scan_feeds (Kp := KpE (T + 1) (T + 1 + 1 + 1 + 1 + 1)) 8 (by omega) W0 _ _ ws HWS.out (KpE.refl _ _) KpE.trans hread (fun _ _ => KpE.of_below)) KpE.trans (KpE.put (by have := Z0.out; omega) (by have := Z0.out; omega)) (Below.refl _ _) (fun _ => rfl)
    (fun p W => (LawI (H := H) T (2 ^ n) ws p W ∧ Blk W (T + 1 + 1 + 1) #[.map (some (T + 1 + 1))] 95 ∧ Blk W (T + 1 + 1 + 1 + 1 + 1) #[.slice a (m + 1) c] 36) ∧ Below (T + 1) W0 W)
    (fun c p W => False)
    (OwnFrom.and (fun s X Y row hs hg hr => ⟨LawI.own (by have := Z0.out; omega) s X Y row hs.1 hg hr, hs.2.1.kept hg (fun r e => (hr r e).2), hs.2.2.kept hg (fun r e => (hr r e).2)⟩) (ownFrom_below (by have := Z0.out; omega) (by have := Z0.out; omega)))
    (fun c s X Y row hs hg hr => hs)
    ⟨⟨⟨Nat.zero_le _, Y2.out, by rw [List.length_nil, lwS, Nat.sub_zero, HT0.out]; exact Y1.out, Y4.out⟩, Y3.out, Y5.out⟩, Below.refl _ _⟩ ?act ?assign ?body ?done ?stop
  case assign =>
    intro l x W K hK
    gi_wp2
    exact hK
  case body =>
    rintro l p ⟨s, x⟩ W ⟨hd, hs, y, hy, hx⟩ ⟨⟨⟨h1, hmap, hlate, hnum⟩, h3, h5⟩, hB⟩
    dsimp only at hs hx
    subst hs hx
    obtain ⟨i, hi'⟩ : ∃ i, p.length = i := ⟨_, rfl⟩
    rw [hi'] at hd hy hmap hlate hnum ⊢
    have HI := hid hi'
    have hi3 : i < 64 := by have := HWS.out.len; omega
    have hS : 0 < ws.sum := HPOS.out
    have nt := two_nd (u := n) (by omega)
    have n1 := HWS.out.pre i
    have n2 := HWS.out.pre (i + 1)
    have n3 := HWS.out.dig y (List.mem_of_getElem? hy)
    have nS := HWS.out.sum
    have m1 : nDigits (pre ws i * 2 ^ n) ≤ 3902 := nd_mul n1 nt (by omega)
    have m2 : nDigits (pre ws (i + 1) * 2 ^ n) ≤ 3902 := nd_mul n2 nt (by omega)
    have C1 := fun V hV => hid (pk_times V (pre ws i) (2 ^ n) (by omega) (by omega) (by omega) hV)
    have C2 := fun V hV => hid (n_DivMod V (pre ws i * 2 ^ n) ws.sum (by omega) (by omega) hS hV)
    have C3 := fun V hV => hid (pk_plus V (pre ws i) y (by omega) (by omega) (by rw [← pre_succ hy]; omega) hV)
    rw [← pre_succ hy] at C3
    have C4 := fun V hV => hid (pk_times V (pre ws (i + 1)) (2 ^ n) (by omega) (by omega) (by omega) hV)
    have C5 := fun V hV => hid (n_DivMod V (pre ws (i + 1) * 2 ^ n) ws.sum (by omega) (by omega) hS hV)
    obtain ⟨R0, hR0⟩ : ∃ s, numB (pre ws (i + 1)) = s := ⟨_, rfl⟩
    obtain ⟨M1, hM1⟩ : ∃ s, numB (pre ws (i + 1) * 2 ^ n) = s := ⟨_, rfl⟩
    obtain ⟨Q1, hQ1⟩ : ∃ s, numB (pre ws (i + 1) * 2 ^ n / ws.sum) = s := ⟨_, rfl⟩
    obtain ⟨E1, hE1⟩ : ∃ s, numB (pre ws (i + 1) * 2 ^ n % ws.sum) = s := ⟨_, rfl⟩
    obtain ⟨P0, hP0⟩ : ∃ s, numB (pre ws i) = s := ⟨_, rfl⟩
    obtain ⟨X0, hX0⟩ : ∃ s, numB y = s := ⟨_, rfl⟩
    obtain ⟨M0, hM0⟩ : ∃ s, numB (pre ws i * 2 ^ n) = s := ⟨_, rfl⟩
    obtain ⟨Q0, hQ0⟩ : ∃ s, numB (pre ws i * 2 ^ n / ws.sum) = s := ⟨_, rfl⟩
    obtain ⟨E0, hE0⟩ : ∃ s, numB (pre ws i * 2 ^ n % ws.sum) = s := ⟨_, rfl⟩
    rw [hP0, hX0, hR0] at C3
    rw [hR0, HT0.out, hM1] at C4
    rw [hM1, HS0.out, hQ1, hE1] at C5
    have HCE := hid (show numB (cntE ws (2 ^ n) i) = Q1 from hQ1)
    have HBD : Hid (nDigits (cntF ws (2 ^ n) i) ≤ 4000 ∧ nDigits (cntE ws (2 ^ n) i) ≤ 4000) := ⟨by have := nDigits_mono (cntF_le (ws := ws) (2 ^ n) hS (i := i)); omega, by have := nDigits_mono (Nat.div_le_self (pre ws (i + 1) * 2 ^ n) ws.sum); unfold cntE; omega⟩
    have HCB : Hid (nDigits (cnt ws (2 ^ n) i) ≤ 4000 ∧ nDigits (2 ^ n) ≤ 4000) := ⟨by have := nDigits_mono (Nat.le_trans (cnt_le ws (2 ^ n) i hS) (Nat.sub_le _ _)); omega, by omega⟩
    have HBD2 : Hid (nDigits (pre ws i * 2 ^ n / ws.sum) ≤ 4000) := by have := nDigits_mono (Nat.div_le_self (pre ws i * 2 ^ n) ws.sum); exact (by omega : nDigits (pre ws i * 2 ^ n / ws.sum) ≤ 4000)
    clear hR0 hM1 hQ1 hE1
    rw [hP0, HT0.out, hM0] at C1
    rw [hM0, HS0.out, hQ0, hE0] at C2
    rw [hP0, hX0]
    have HP0 := hid hP0; have HX0 := hid hX0; have HM0 := hid hM0; have HQ0 := hid hQ0; have HE0 := hid hE0
    have HY := hid hy; have HMAP := hid hmap; have HLATE := hid hlate; have HNUM := hid hnum; have H3 := hid h3; have H5 := hid h5; have HB := hid hB; have HD := hid hd; have HS := hid hS
    have HTWO := hid (Y0.out.below hB (by omega))
    have HALL := hid (Y8.out.below hB (by have := hlt.out; omega))
    have hLay : Hid (Lay W) := by
      have k1 := y3.out
      have k2 := HB0.out
      have k4 := HTT.out
      exact (HL.out.call y3.out).call ((by rw [k4]; exact k2.trans (hB.mono (by omega))))
    clear hy hmap hlate hnum h3 h5 hB hd hS hP0 hX0 hM0 hQ0 hE0 nt n1 n2 n3 nS m1 m2 hi'
    have c0 := HTWO.out.cell 0
    have c1 := HALL.out.cell 0
    simp at c0 c1
    gi_wp2_with fail
    have KK : Hid (∀ w', Below W.heap.size W w' → w'.cell? ⟨T, 0, none⟩ = some (.string T0) ∧ w'.cell? ⟨w2.heap.size, 0, none⟩ = some (.string S0)) := fun w' hb => ⟨(HTWO.out.call hb).cell 0, (HALL.out.call hb).cell 0⟩
    refine held_round (fun w' => w'.cell? ⟨T, 0, none⟩ = some (.string T0) ∧ w'.cell? ⟨w2.heap.size, 0, none⟩ = some (.string S0)) (by kernel_rfl) (by kernel_rfl) ?_
    refine held_more (is := [0, 1, 3]) (g := 9) (by kernel_rfl) rfl (KK.out _ (Below.refl _ _).drew) (by kernel_rfl) ?_
    iterate 3
      refine ⟨_, rfl, ?_⟩
      apply Exists.intro
      refine ⟨.inl ⟨by rfl, ?_⟩, ?_⟩
      · (intro W' hW'; obtain ⟨q1, q2⟩ := hW'; go_simp; try (with_reducible rfl))
      (dsimp only [Act.put]; try simp only [List.setIfInBounds_toArray, List.set_cons_zero, List.set_cons_succ])
    refine held_one (i := 2) (by kernel_rfl) (by rfl) (by rfl) ?_
    go_wp2_with fail
    refine (C1 _ (hLay.out.call (Below.refl _ _).drew)).out.mono ?_; rintro e w4 ⟨rfl, hb4⟩
    have x4 := hid (show Below W.heap.size W w4 from (Below.refl _ _).drew.trans hb4)
    clear hb4
    go_wp2_with fail
    refine ⟨KK.out _ x4.out, ?_⟩
    refine held_one (i := 4) (by kernel_rfl) (by rfl) (by rfl) ?_
    go_wp2_with fail
    refine (C2 _ (hLay.out.call x4.out)).out.mono ?_; rintro e w5 ⟨rfl, hb5⟩
    have x5 := hid (bnext x4.out hb5)
    clear hb5
    go_wp2_with fail
    refine ⟨KK.out _ x5.out, ?_⟩
    refine held_more (is := [5, 6, 7, 8, 9, 10, 11]) (g := 0) (by kernel_rfl) rfl (KK.out _ x5.out) (by kernel_rfl) ?_
    iterate 7
      refine ⟨_, rfl, ?_⟩
      apply Exists.intro
      refine ⟨.inl ⟨by rfl, ?_⟩, ?_⟩
      · (intro W' hW'; obtain ⟨q1, q2⟩ := hW'; go_simp; try (with_reducible rfl))
      (dsimp only [Act.put]; try simp only [List.setIfInBounds_toArray, List.set_cons_zero, List.set_cons_succ])
    refine wpAnyH_done (by kernel_rfl) ?_ _
    simp only [Only]
    have HF : Hid (cntF ws (2 ^ n) i = pre ws i * 2 ^ n / ws.sum + (if pre ws i * 2 ^ n % ws.sum ≠ 0 then 1 else 0)) := rfl
    obtain ⟨F0, hF0⟩ : ∃ s, numB (cntF ws (2 ^ n) i) = s := ⟨_, rfl⟩
    have HQF := hid hF0
    have C7 := fun V => hid (pk_cmp V (cntE ws (2 ^ n) i) (cntF ws (2 ^ n) i) HBD.out.2 HBD.out.1)
    rw [HCE.out, hF0] at C7
    obtain ⟨z, hz⟩ : ∃ z, ordN (cntE ws (2 ^ n) i) (cntF ws (2 ^ n) i) = z := ⟨_, rfl⟩
    rw [hz] at C7
    have HZ := hid (show decide (z > 0) = decide (cntF ws (2 ^ n) i < cntE ws (2 ^ n) i) from by rw [← hz]; exact ordN_pos)
    clear hF0 hz
    obtain ⟨tb, htb⟩ : ∃ b, (E0.toList == [48]) = b := ⟨_, rfl⟩
    gi_upto_if 65 with fail
    have HTB := hid htb
    clear htb
    gi_cut [16] from 23 (fun s16 wc => s16 = .string F0 ∧ Below W.heap.size W wc)
    case first =>
      by_cases hr0 : pre ws i * 2 ^ n % ws.sum = 0
      · have hF : numB (cntF ws (2 ^ n) i) = Q0 := by rw [HF.out, if_neg (by simpa using hr0), Nat.add_zero]; exact HQ0.out
        have HE := hid (hF.symm.trans HQF.out)
        obtain rfl : true = tb := by rw [← HTB.out, ← HE0.out, hr0, numB_zero, Lib.toList_data]; rfl
        clear hF hr0
        gi_wp2_with fail
        gi_meet
        case rel => exact ⟨by rw [HE.out], x5.out⟩
      · have hF : cntF ws (2 ^ n) i = pre ws i * 2 ^ n / ws.sum + 1 := by rw [HF.out, if_pos hr0]
        have he0 : ¬ E0 = ⟨[48].toArray⟩ := by rw [← HE0.out, ← numB_zero]; exact numB_ne hr0
        obtain rfl : false = tb := by rw [← HTB.out]; exact (ne_lit he0).symm
        have C6 := fun V hV => hid (pk_plus V (pre ws i * 2 ^ n / ws.sum) 1 HBD2.out (by rw [nDigits_one]; omega) (by rw [← hF]; exact HBD.out.1) hV)
        rw [HQ0.out, numB_one, ← hF, HQF.out] at C6
        clear hF hr0 he0
        gi_wp2_with fail
        refine ⟨trivial, ?_⟩
        refine (CallsIn.inRound _ (callsIn_wide.2 (C6 _ (hLay.out.call x5.out)).out)).mono ?_; rintro e w6 ⟨rfl, hb6⟩
        have xF := hid (bnext x5.out hb6)
        clear hb6
        gi_wp2_with fail
        gi_meet
        case rel => exact ⟨rfl, xF.out⟩
    case rest =>
      obtain ⟨rfl, hxF⟩ := hcut
      have xF := hid hxF
      clear hxF
      gi_wp2_with fail
      refine held_round (fun w' => w'.cell? ⟨T, 0, none⟩ = some (.string T0) ∧ w'.cell? ⟨w2.heap.size, 0, none⟩ = some (.string S0)) (by kernel_rfl) (by kernel_rfl) ?_
      refine held_more (is := [0, 1, 3, 5]) (g := 10) (by kernel_rfl) rfl (KK.out _ xF.out.drew) (by kernel_rfl) ?_
      iterate 4
        refine ⟨_, rfl, ?_⟩
        apply Exists.intro
        refine ⟨.inl ⟨by rfl, ?_⟩, ?_⟩
        · (intro W' hW'; obtain ⟨q1, q2⟩ := hW'; go_simp; try (with_reducible rfl))
        (dsimp only [Act.put]; try simp only [List.setIfInBounds_toArray, List.set_cons_zero, List.set_cons_succ])
      refine held_one (i := 2) (by kernel_rfl) (by rfl) (by rfl) ?_
      go_wp2_with fail
      refine (C3 _ (hLay.out.call xF.out.drew)).out.mono ?_; rintro e w7 ⟨rfl, hb7⟩
      have x7 := hid (bnext xF.out.drew hb7)
      clear hb7
      go_wp2_with fail
      refine ⟨KK.out _ x7.out, ?_⟩
      refine held_one (i := 4) (by kernel_rfl) (by rfl) (by rfl) ?_
      go_wp2_with fail
      refine (C4 _ (hLay.out.call x7.out)).out.mono ?_; rintro e w8 ⟨rfl, hb8⟩
      have x8 := hid (bnext x7.out hb8)
      clear hb8
      go_wp2_with fail
      refine ⟨KK.out _ x8.out, ?_⟩
      refine held_one (i := 6) (by kernel_rfl) (by rfl) (by rfl) ?_
      go_wp2_with fail
      refine (C5 _ (hLay.out.call x8.out)).out.mono ?_; rintro e w9 ⟨rfl, hb9⟩
      have x9 := hid (bnext x8.out hb9)
      clear hb9
      go_wp2_with fail
      refine ⟨KK.out _ x9.out, ?_⟩
      refine held_more (is := [7, 8, 9, 10, 11, 12, 13]) (g := 0) (by kernel_rfl) rfl (KK.out _ x9.out) (by kernel_rfl) ?_
      iterate 7
        refine ⟨_, rfl, ?_⟩
        apply Exists.intro
        refine ⟨.inl ⟨by rfl, ?_⟩, ?_⟩
        · (intro W' hW'; obtain ⟨q1, q2⟩ := hW'; go_simp; try (with_reducible rfl))
        (dsimp only [Act.put]; try simp only [List.setIfInBounds_toArray, List.set_cons_zero, List.set_cons_succ])
      refine wpAnyH_done (by kernel_rfl) ?_ _
      simp only [Only]
      gi_wp2_with fail
      refine ⟨trivial, ?_⟩
      refine (CallsIn.inRound _ (callsIn_wide.2 (C7 _).out)).mono ?_; rintro e w10 ⟨rfl, hb10⟩
      have x10 := hid (bnext x9.out hb10)
      clear hb10
      have k4 := (HNUM.out.call x10.out).cell 0
      have k5 := (HNUM.out.call x10.out).free 0
      simp at k4
      have wi : IntKind.i64.wrap ((i : Int) + 1) = ((i + 1 : Nat) : Int) := by rw [IntWalk.i64_in _ ⟨by omega, by omega⟩]; omega
      by_cases hlt2 : cntF ws (2 ^ n) i < cntE ws (2 ^ n) i
      · have z0 : decide (z > 0) = true := by rw [HZ.out]; simpa using hlt2
        have HLT2 := hid hlt2
        have hT := two_nd (u := n) (by omega)
        have C8 := fun V hV => hid (pk_less V (cntE ws (2 ^ n) i) (cntF ws (2 ^ n) i) HBD.out.2 HBD.out.1 (Nat.le_of_lt hlt2) hV)
        have hcl := cnt_le ws (2 ^ n) i HS.out
        have C9 := fun V hV => hid (pk_less V (2 ^ n - lwS ws (2 ^ n) i) (cnt ws (2 ^ n) i) (by have := nDigits_mono (Nat.sub_le (2 ^ n) (lwS ws (2 ^ n) i)); omega) (by have := nDigits_mono (Nat.le_trans hcl (Nat.sub_le _ _)); omega) hcl hV)
        obtain ⟨K0, hK0⟩ : ∃ s, numB (cnt ws (2 ^ n) i) = s := ⟨_, rfl⟩
        rw [HCE.out, HQF.out, show numB (cntE ws (2 ^ n) i - cntF ws (2 ^ n) i) = K0 from hK0] at C8
        obtain ⟨G0, hG0⟩ : ∃ s, numB (2 ^ n - lwS ws (2 ^ n) i) = s := ⟨_, rfl⟩
        obtain ⟨G1, hG1⟩ : ∃ s, numB (2 ^ n - lwS ws (2 ^ n) i - cnt ws (2 ^ n) i) = s := ⟨_, rfl⟩
        rw [hG0, hK0, hG1] at C9
        have HLT := hid (hG0 ▸ HLATE.out : Blk W (T + 1) #[.string G0] 22)
        have HK0 := hid hK0; have HG1 := hid hG1
        clear hlt2 hT hcl hK0 hG0 hG1 k4 k5
        gi_wp2_with fail
        refine ⟨trivial, ?_⟩
        refine (CallsIn.inRound _ (callsIn_wide.2 (C8 _ (hLay.out.call x10.out)).out)).mono ?_; rintro e w11 ⟨rfl, hb11⟩
        have x11 := hid (bnext x10.out hb11)
        have k6 := (HLT.out.call x11.out).cell 0
        have k7 := (HLT.out.call x11.out).free 0
        simp at k6
        clear hb11
        gi_wp2_with fail
        refine ⟨trivial, ?_⟩
        refine (CallsIn.inRound _ (callsIn_wide.2 (C9 _ (hLay.out.call x11.out)).out)).mono ?_; rintro e w12 ⟨rfl, hb12⟩
        have x12 := hid (bnext x11.out hb12)
        clear hb12 k6 k7
        have k7 := (HLT.out.call x12.out).free 0
        have k8 := (HLT.out.call x12.out).cell 0
        simp at k8
        gi_wp2_with fail
        have hz0 := Z0.out
        have hsz := HB.out.size
        have hx := x12.out.size
        obtain ⟨V, hV⟩ : ∃ V, w12.setCell ⟨T + 1, 0, none⟩ (.string G1) = V := ⟨_, rfl⟩
        have v3 : Blk V (T + 1 + 1 + 1) #[.map (some (T + 1 + 1))] 95 := by rw [← hV]; exact (H3.out.call x12.out).other (a := ⟨T + 1, 0, none⟩) (by simp) _
        have v4 : Blk V (T + 1 + 1 + 1 + 1) #[.int .i64 (i : Nat)] 3 := by rw [← hV]; exact (HNUM.out.call x12.out).other (a := ⟨T + 1, 0, none⟩) (by simp <;> omega) _
        have v0 : Blk V T #[.string T0] 22 := by rw [← hV]; exact (HTWO.out.call x12.out).other (a := ⟨T + 1, 0, none⟩) (by simp) _
        have v5 : Blk V (T + 1 + 1 + 1 + 1 + 1) #[.slice a (m + 1) c] 36 := by rw [← hV]; exact (H5.out.call x12.out).other (a := ⟨T + 1, 0, none⟩) (by simp <;> omega) _
        have v1 : Blk V (T + 1) #[.string G1] 22 := by rw [← hV]; exact (HLT.out.call x12.out).set 0 _
        have vm : V.ownsMap Tryz.prog 9 (plainElem (H := H) Tryz.prog 22) (T + 1 + 1) i (lawD ws (2 ^ n) i) := by
          rw [← hV]
          exact (HMAP.out.kept (row := none) ⟨x12.out.os, x12.out.tape, x12.out.output, x12.out.size, fun k hk _ => x12.out.block k hk⟩ (by simp)).kept (grownBy_setCell' w12 (T + 1) (.string G1)) (by simp)
        have vb : Below (T + 1) W V := by rw [← hV]; exact (x12.out.mono (by omega)).setCell (by simp) _
        have vk : KeepsFrom W0.heap.size W V := by
          rw [← hV]
          exact KeepsFrom.trans ⟨x12.out.size, fun k o hk ho hc => (x12.out.block k (Array.getElem?_eq_some_iff.1 ho).1).trans ho⟩ ((KeepsOthers.setCell _ _ _).from _)
        have vL : Lay V := by
          have q := HL.out.lt
          have h1 := y3.out.size
          have h2 := HTT.out
          exact Lay.below hLay.out vb ⟨Nat.lt_of_lt_of_le q.1 (by omega), Nat.lt_of_lt_of_le q.2 (by omega)⟩
        have hsv := vb.size
        have V0 := hid v0; have V1 := hid v1; have V3 := hid v3; have V4 := hid v4; have V5 := hid v5; have VM := hid vm; have VB := hid vb; have VK := hid vk; have VL := hid vL; have HSV := hid hsv
        have KV : Hid (∀ w', Below V.heap.size V w' → w'.cell? ⟨T, 0, none⟩ = some (.string T0) ∧ w'.cell? ⟨T + 1 + 1 + 1, 0, none⟩ = some (.map (some (T + 1 + 1))) ∧ w'.cell? ⟨T + 1 + 1 + 1 + 1, 0, none⟩ = some (.int .i64 (i : Nat))) := fun w' hb => ⟨(V0.out.call hb).cell 0, (V3.out.call hb).cell 0, (V4.out.call hb).cell 0⟩
        have C10 := fun V hV => hid (s_Itoa V i (by omega) hV)
        have C11 := fun V hV => hid (pk_make V (cnt ws (2 ^ n) i) (2 ^ n) HCB.out.1 HCB.out.2 (Nat.ne_of_gt (Nat.pow_pos (by omega))) hV)
        obtain ⟨I0, hI0⟩ : ∃ s, numB i = s := ⟨_, rfl⟩
        obtain ⟨J0, hJ0⟩ : ∃ s, shB (cnt ws (2 ^ n) i) (2 ^ n) = s := ⟨_, rfl⟩
        obtain ⟨oe, hoe⟩ : ∃ s, outE (qmk false (cnt ws (2 ^ n) i) (2 ^ n)) = s := ⟨_, rfl⟩
        rw [hI0] at C10
        rw [HK0.out, HT0.out, hJ0, hoe] at C11
        have HI0 := hid hI0; have HJ0 := hid hJ0
        rw [hV]
        clear v0 v1 v3 v4 v5 vm vb vk vL hsv hV hI0 hJ0 hoe k7 k8 hz0 hsz hx
        refine held_round (fun w' => w'.cell? ⟨T, 0, none⟩ = some (.string T0) ∧ w'.cell? ⟨T + 1 + 1 + 1, 0, none⟩ = some (.map (some (T + 1 + 1))) ∧ w'.cell? ⟨T + 1 + 1 + 1 + 1, 0, none⟩ = some (.int .i64 (i : Nat))) (by kernel_rfl) (by kernel_rfl) ?_
        refine held_more (is := [0, 1, 3, 4]) (g := 6) (by kernel_rfl) rfl (KV.out _ (Below.refl _ _).drew) (by kernel_rfl) ?_
        iterate 4
          refine ⟨_, rfl, ?_⟩
          apply Exists.intro
          refine ⟨.inl ⟨by rfl, ?_⟩, ?_⟩
          · (intro W' hW'; obtain ⟨q1, q2, q3⟩ := hW'; go_simp; try (with_reducible rfl))
          (dsimp only [Act.put]; try simp only [List.setIfInBounds_toArray, List.set_cons_zero, List.set_cons_succ])
        refine held_one (i := 2) (by kernel_rfl) (by rfl) (by rfl) ?_
        go_wp2_with fail
        refine (C10 _ (VL.out.call (Below.refl _ _).drew)).out.mono ?_; rintro e w13 ⟨rfl, hb13⟩
        have x13 := hid (show Below V.heap.size V w13 from (Below.refl _ _).drew.trans hb13)
        clear hb13
        go_wp2_with fail
        refine ⟨KV.out _ x13.out, ?_⟩
        refine held_one (i := 5) (by kernel_rfl) (by rfl) (by rfl) ?_
        go_wp2_with fail
        refine (C11 _ (VL.out.call x13.out)).out.mono ?_; rintro e w14 ⟨rfl, hb14⟩
        have x14 := hid (bnext x13.out hb14)
        clear hb14
        go_wp2_with fail
        refine ⟨KV.out _ x14.out, ?_⟩
        refine held_more (is := [6, 7, 8]) (g := 1) (by kernel_rfl) rfl (KV.out _ x14.out) (by kernel_rfl) ?_
        iterate 3
          refine ⟨_, rfl, ?_⟩
          apply Exists.intro
          refine ⟨.inl ⟨by rfl, ?_⟩, ?_⟩
          · (intro W' hW'; obtain ⟨q1, q2, q3⟩ := hW'; go_simp; try (with_reducible rfl))
          (dsimp only [Act.put]; try simp only [List.setIfInBounds_toArray, List.set_cons_zero, List.set_cons_succ])
        refine held_one (i := 9) (by kernel_rfl) (by rfl) (by rfl) ?_
        have hIs : I0.size ≤ maxLen := by rw [← HI0.out, numB_size]; have := nDigits_le (n := i) (k := 2) (by omega) (by omega); unfold maxLen; omega
        have hJs : J0.size ≤ maxLen := by rw [← HJ0.out]; exact shB_size _ _
        have lt15 := HSV.out
        refine wpList_mapUpdate_own _ rfl _ _ _ 95 rfl 9 22 lawKeyed Tryz.underlying95 _ (T + 1 + 1) i _ rfl (VM.out.kept (row := none) ⟨x14.out.os, x14.out.tape, x14.out.output, x14.out.size, fun k hk _ => x14.out.block k hk⟩ (by simp)) (by unfold maxLen; omega) _ _ _ rfl rfl (Go.WideMaps.keyOf_string_mk Tryz.underlying9 hIs) _ [] (plainElem_string Tryz.underlying22 hJs) ?_
        intro w15 hown hgrow
        have U3 := hid ((V3.out.call x14.out).grown hgrow (fun e => by injection e with e; omega))
        have U4 := hid ((V4.out.call x14.out).grown hgrow (fun e => by injection e with e; omega))
        have U5 := hid ((V5.out.call x14.out).grown hgrow (fun e => by injection e with e; omega))
        have U0 := hid ((V0.out.call x14.out).grown hgrow (fun e => by injection e with e; omega))
        have U1 := hid ((V1.out.call x14.out).grown hgrow (fun e => by injection e with e; omega))
        have UM := hid hown
        have UB := hid (below_gb (VB.out.trans (x14.out.mono (by have := VB.out.size; have := Z0.out; have := HB.out.size; omega))) (by have := x14.out.size; have := Z0.out; have := HB.out.size; omega) hgrow (by omega))
        have UK : Hid (KeepsFrom W0.heap.size W w15) := VK.out.trans (KeepsFrom.trans ⟨x14.out.size, fun k o hk ho hc => (x14.out.block k (Array.getElem?_eq_some_iff.1 ho).1).trans ho⟩ ⟨hgrow.size, fun k o hk ho hc => (hgrow.block k (Array.getElem?_eq_some_iff.1 ho).1 (by have := Z0.out; simp; omega)).trans ho⟩)
        have m3 := U3.out.cell 0
        have m0 := U0.out.cell 0
        have m4 := U4.out.cell 0
        have m5 := U4.out.free 0
        simp at m0 m3 m4
        clear hown hgrow lt15
        go_wp2_with fail
        refine ⟨⟨m0, m3, m4⟩, ?_⟩
        refine wpAnyH_done (by kernel_rfl) ?_ _
        simp only [Only]
        gi_wp2_with fail
        have hz0 := Z0.out
        have hsz := HB.out.size
        have hx := UB.out.size
        have g5 := U5.out.other (a := ⟨T + 1 + 1 + 1 + 1, 0, none⟩) (by simp <;> omega) (.int .i64 ((i + 1 : Nat) : Int))
        have g3 := U3.out.other (a := ⟨T + 1 + 1 + 1 + 1, 0, none⟩) (by simp <;> omega) (.int .i64 ((i + 1 : Nat) : Int))
        have g1 := U1.out.other (a := ⟨T + 1 + 1 + 1 + 1, 0, none⟩) (by simp <;> omega) (.int .i64 ((i + 1 : Nat) : Int))
        have g4 := U4.out.set 0 (.int .i64 ((i + 1 : Nat) : Int))
        have gm := UM.out.kept (grownBy_setCell' w15 (T + 1 + 1 + 1 + 1) (.int .i64 ((i + 1 : Nat) : Int))) (by simp <;> omega)
        have eD : lawD (H := H) ws (2 ^ n) (i + 1) = (lawD ws (2 ^ n) i).put (.string (numB i).data.toList) (.lit (.string (shB (cnt ws (2 ^ n) i) (2 ^ n)).data.toList)) := by rw [lawD, if_pos HLT2.out]
        have eS : 2 ^ n - lwS ws (2 ^ n) (i + 1) = 2 ^ n - lwS ws (2 ^ n) i - cnt ws (2 ^ n) i := by rw [lwS]; omega
        refine ⟨KeepsFrom.trans UK.out ((KeepsOthers.setCell _ _ _).from _), ⟨by simpa [World.setCell] using hx, fun _ _ => ⟨UB.out.setCell (by simp <;> omega) _, g5.trans (Eq.symm H5.out)⟩⟩, ⟨⟨?_, ?_, ?_, ?_⟩, g3, g5⟩, (HB.out.trans UB.out).setCell (by simp <;> omega) _⟩
        · rw [List.length_append, List.length_singleton, HI.out]; exact HD.out
        · rw [List.length_append, List.length_singleton, HI.out, eD, HI0.out, HJ0.out]; exact gm
        · rw [List.length_append, List.length_singleton, HI.out, eS, HG1.out]; exact g1
        · rw [List.length_append, List.length_singleton, HI.out]; exact g4
      · have z0 : decide (z > 0) = false := by rw [HZ.out]; simpa using hlt2
        have HLT2 := hid hlt2
        clear hlt2
        gi_wp2_with fail
        have hz0 := Z0.out
        have hsz := HB.out.size
        have hx := x10.out.size
        have g5 := (H5.out.call x10.out).other (a := ⟨T + 1 + 1 + 1 + 1, 0, none⟩) (by simp <;> omega) (.int .i64 ((i + 1 : Nat) : Int))
        have g3 := (H3.out.call x10.out).other (a := ⟨T + 1 + 1 + 1 + 1, 0, none⟩) (by simp <;> omega) (.int .i64 ((i + 1 : Nat) : Int))
        have g1 := (HLATE.out.call x10.out).other (a := ⟨T + 1 + 1 + 1 + 1, 0, none⟩) (by simp <;> omega) (.int .i64 ((i + 1 : Nat) : Int))
        have g4 := (HNUM.out.call x10.out).set 0 (.int .i64 ((i + 1 : Nat) : Int))
        have gm := (HMAP.out.kept (row := none) ⟨x10.out.os, x10.out.tape, x10.out.output, x10.out.size, fun k hk _ => x10.out.block k hk⟩ (by simp)).kept (grownBy_setCell' w10 (T + 1 + 1 + 1 + 1) (.int .i64 ((i + 1 : Nat) : Int))) (by simp <;> omega)
        have eD : lawD (H := H) ws (2 ^ n) (i + 1) = lawD ws (2 ^ n) i := by rw [lawD, if_neg HLT2.out]
        have eS : lwS ws (2 ^ n) (i + 1) = lwS ws (2 ^ n) i := by rw [lwS, cnt]; have := HLT2.out; omega
        refine ⟨KeepsFrom.trans ⟨x10.out.size, fun k o hk ho hc => (x10.out.block k (Array.getElem?_eq_some_iff.1 ho).1).trans ho⟩ ((KeepsOthers.setCell _ _ _).from _), ⟨by simpa [World.setCell] using x10.out.size, fun _ _ => ⟨(x10.out.mono (by omega)).setCell (by simp <;> omega) _, g5.trans (Eq.symm H5.out)⟩⟩, ⟨⟨?_, ?_, ?_, ?_⟩, g3, g5⟩, (HB.out.trans (x10.out.mono (by omega))).setCell (by simp <;> omega) _⟩
        · rw [List.length_append, List.length_singleton, HI.out]; exact HD.out
        · rw [List.length_append, List.length_singleton, HI.out, eD]; exact gm.mono (Nat.le_succ _)
        · rw [List.length_append, List.length_singleton, HI.out, eS]; exact g1
        · rw [List.length_append, List.length_singleton, HI.out]; exact g4
  case done =>
    rintro D' xs W hD hS ⟨⟨⟨h1, hmap, hlate, hnum⟩, h3, h5⟩, hB⟩ hK
    rw [hS] at hmap hlate
    have hlw := lwS_fit ws (2 ^ n) ws.length HPOS.out
    have nt := two_nd (u := n) (by omega)
    have hnd : Hid (nDigits (2 ^ n - lwS ws (2 ^ n) ws.length) ≤ 4000 ∧ nDigits (2 ^ n) ≤ 4000) := ⟨by have := nDigits_mono (Nat.sub_le (2 ^ n) (lwS ws (2 ^ n) ws.length)); omega, by omega⟩
    obtain ⟨L, hL⟩ : ∃ L, 2 ^ n - lwS ws (2 ^ n) ws.length = L := ⟨_, rfl⟩
    rw [hL] at hlate hnd
    have HLL := hid hL
    obtain ⟨L0, hL0⟩ : ∃ s, numB L = s := ⟨_, rfl⟩
    rw [hL0] at hlate
    have HL0 := hid hL0
    have HMAP := hid hmap; have HLATE := hid hlate; have H3 := hid h3; have HB := hid hB; have HK := hid hK; have HDD := hid hD; have HWL := hid HLEN.out
    have hLay : Hid (Lay W) := by
      have k1 := y3.out
      have k2 := HB0.out
      have k4 := HTT.out
      exact (HL.out.call y3.out).call ((by rw [k4]; exact k2.trans (hB.mono (by omega))))
    have HTWO := hid (Y0.out.below hB (by omega))
    have c0 := HTWO.out.cell 0
    have c1 := HLATE.out.cell 0
    have c3 := H3.out.cell 0
    simp at c0 c1 c3
    clear hS h1 hmap hlate hnum h3 h5 hB hK hD hL hL0 hlw nt
    by_cases hz : L = 0
    · have hl0 : L0 = ⟨#[48]⟩ := by rw [← HL0.out, hz, numB_zero]
      subst hl0
      have HZ := hid hz
      clear hz
      gi_wp2_with fail
      refine marks_end HK.out (v := .tuple #[.map (some (T + 1 + 1)), .int .i64 0]) (by simp [results, Tryz.results110, go_sem]) ⟨⟨_, rfl, ?_⟩, ?_⟩
      · have hm2 := HMAP.out.kept (grownBy_putObj' W D' (.deferred none)) (fun e => by injection e with e; have := HDD.out; have := Z0.out; omega)
        rw [lawM, if_pos (by rw [← HWL.out, HLL.out, HZ.out]), ← HWL.out]
        exact hm2.mono (Nat.le_succ _)
      · have k1 := y3.out
        have k2 := HTT.out
        have k3 := k1.size
        refine ((k1.trans (HB0.out.mono (by omega))).trans (HB.out.mono (by omega))).trans (belowK_b (w := w) (Nat.le_refl _) _ D' _ _ (by have := Z0.out; have := HDD.out; omega) HK.out rfl rfl)
    · have he0 : ¬ L0 = ⟨[48].toArray⟩ := by rw [← HL0.out, ← numB_zero]; exact numB_ne hz
      have hne := ne_lit he0
      have HNZ := hid hz
      have C1 := fun V hV => hid (pk_make V L (2 ^ n) hnd.out.1 hnd.out.2 (Nat.ne_of_gt (Nat.pow_pos (by omega))) hV)
      obtain ⟨J0, hJ0⟩ : ∃ s, shB L (2 ^ n) = s := ⟨_, rfl⟩
      obtain ⟨oe, hoe⟩ : ∃ s, outE (qmk false L (2 ^ n)) = s := ⟨_, rfl⟩
      rw [HL0.out, HT0.out, hJ0, hoe] at C1
      have HJ0 := hid hJ0
      have KV : Hid (∀ w', Below W.heap.size W w' → w'.cell? ⟨T, 0, none⟩ = some (.string T0) ∧ w'.cell? ⟨T + 1, 0, none⟩ = some (.string L0) ∧ w'.cell? ⟨T + 1 + 1 + 1, 0, none⟩ = some (.map (some (T + 1 + 1)))) := fun w' hb => ⟨(HTWO.out.call hb).cell 0, (HLATE.out.call hb).cell 0, (H3.out.call hb).cell 0⟩
      clear hz he0 hJ0 hoe c0 c3
      gi_wp2_with fail
      refine held_wide (fun w' => w'.cell? ⟨T, 0, none⟩ = some (.string T0) ∧ w'.cell? ⟨T + 1, 0, none⟩ = some (.string L0) ∧ w'.cell? ⟨T + 1 + 1 + 1, 0, none⟩ = some (.map (some (T + 1 + 1)))) (by kernel_rfl) ?_
      refine held_more (is := [0, 1, 2]) (g := 5) (by kernel_rfl) rfl (KV.out _ (Below.refl _ _).drew) (by kernel_rfl) ?_
      iterate 3
        refine ⟨_, rfl, ?_⟩
        apply Exists.intro
        refine ⟨.inl ⟨by rfl, ?_⟩, ?_⟩
        · (intro W' hW'; obtain ⟨q1, q2, q3⟩ := hW'; go_simp; try (with_reducible rfl))
        (dsimp only [Act.put]; try simp only [List.setIfInBounds_toArray, List.set_cons_zero, List.set_cons_succ])
      refine held_one (i := 3) (by kernel_rfl) (by rfl) (by rfl) ?_
      go_wp2_with fail
      refine (C1 _ (hLay.out.call (Below.refl _ _).drew)).out.mono ?_; rintro e w4 ⟨rfl, hb4⟩
      have x4 := hid (show Below W.heap.size W w4 from (Below.refl _ _).drew.trans hb4)
      clear hb4
      go_wp2_with fail
      refine ⟨KV.out _ x4.out, ?_⟩
      refine held_more (is := [4, 5, 6]) (g := 1) (by kernel_rfl) rfl (KV.out _ x4.out) (by kernel_rfl) ?_
      iterate 3
        refine ⟨_, rfl, ?_⟩
        apply Exists.intro
        refine ⟨.inl ⟨by rfl, ?_⟩, ?_⟩
        · (intro W' hW'; obtain ⟨q1, q2, q3⟩ := hW'; go_simp; try (with_reducible rfl))
        (dsimp only [Act.put]; try simp only [List.setIfInBounds_toArray, List.set_cons_zero, List.set_cons_succ])
      refine held_one (i := 7) (by kernel_rfl) (by rfl) (by rfl) ?_
      have hJs : J0.size ≤ maxLen := by rw [← HJ0.out]; exact shB_size _ _
      have hm64 : ws.length ≤ 64 := by have := HLEN.out; omega
      refine wpList_mapUpdate_own _ rfl _ _ _ 95 rfl 9 22 lawKeyed Tryz.underlying95 _ (T + 1 + 1) ws.length _ rfl (HMAP.out.kept (row := none) ⟨x4.out.os, x4.out.tape, x4.out.output, x4.out.size, fun k hk _ => x4.out.block k hk⟩ (by simp)) (by unfold maxLen; omega) _ _ _ rfl rfl (Go.WideMaps.keyOf_string_mk Tryz.underlying9 (by unfold maxLen; decide)) _ [] (plainElem_string Tryz.underlying22 hJs) ?_
      intro w15 hown hgrow
      have U3 := hid ((H3.out.call x4.out).grown hgrow (fun e => by injection e with e; omega))
      have U0 := hid ((HTWO.out.call x4.out).grown hgrow (fun e => by injection e with e; omega))
      have U1 := hid ((HLATE.out.call x4.out).grown hgrow (fun e => by injection e with e; omega))
      have UM := hid hown
      have UB := hid (below_gb ((HB.out).trans (x4.out.mono (by have := HB.out.size; have := Z0.out; omega))) (by have := x4.out.size; have := Z0.out; have := HB.out.size; omega) hgrow (by omega))
      have UK : Hid (w15.heap[D']? = some (.deferred (some []))) := by
        have hl := (Array.getElem?_eq_some_iff.1 HK.out).1
        have h1 := x4.out.block D' hl
        have h2 := hgrow.block D' (by have := x4.out.size; omega) (by have := HDD.out; have := Z0.out; simp; omega)
        rw [h2, h1]; exact HK.out
      have m3 := U3.out.cell 0
      have m0 := U0.out.cell 0
      have m1 := U1.out.cell 0
      simp at m0 m1 m3
      clear hown hgrow hm64 c1
      go_wp2_with fail
      refine ⟨⟨m0, m1, m3⟩, ?_⟩
      refine wpAnyH_done (by kernel_rfl) ?_ _
      simp only [Only]
      gi_wp2_with fail
      refine marks_end UK.out (v := .tuple #[.map (some (T + 1 + 1)), .int .i64 0]) (by simp [results, Tryz.results110, go_sem]) ⟨⟨_, rfl, ?_⟩, ?_⟩
      · have hm2 := UM.out.kept (grownBy_putObj' w15 D' (.deferred none)) (fun e => by injection e with e; have := HDD.out; have := Z0.out; omega)
        rw [lawM, if_neg (by rw [← HWL.out, HLL.out]; exact HNZ.out), ← HWL.out, HLL.out, HJ0.out]
        exact hm2
      · have k1 := y3.out
        have k2 := HTT.out
        have k3 := k1.size
        refine ((k1.trans (HB0.out.mono (by omega))).trans (UB.out.mono (by omega))).trans (belowK_b (w := w) (Nat.le_refl _) _ D' _ _ (by have := Z0.out; have := HDD.out; omega) UK.out rfl rfl)
  case stop =>
    rintro D' c p W hD - h hK
    exact h.elim
end Go.Proofs.YtpheklgnmbpobaaGreatDoor
namespace Go.Proofs.YtpheklgnmbpobaaGreatDoor
open Go.RowKit Go.Shelf
open Go.Lib (decDigits nDigits)
set_option linter.unusedVariables false
set_option linter.unusedSimpArgs false
def LayS (w : World) : Prop := ∃ ev, w.cell? ⟨0, 0, none⟩ = some ev ∧ (ev = .nilIface ∨ ∃ te pe, ev = .iface te pe)
theorem LayS.call {w w' : World} (h : LayS w) (hb : Below w.heap.size w w') : LayS w' := by
  obtain ⟨ev, h1, h2⟩ := h
  exact ⟨ev, (hb.cell (World.block_lt_of_cell? w _ h1)).trans h1, h2⟩
structure LayB (w : World) : Prop where
  l : Lay w
  s : LayS w
theorem LayB.call {w w' : World} (h : LayB w) (hb : Below w.heap.size w w') : LayB w' := ⟨h.l.call hb, h.s.call hb⟩
theorem b_AtoiN (w : World) (i : Nat) (hi : i ≤ 1000000) :
    Calls Tryz.prog 74 #[.string (numB i)] w fun e w' => e = .returned (.tuple #[.int .i64 (i : Nat), .nilIface]) ∧ Below w.heap.size w w' := by
  have hd := nDigits_le (n := i) (k := 7) (by omega) (by omega)
  refine (Tryz.strconv_Atoi (numB i) i (by rw [numB_size]; omega) (by rw [numB_list]; exact atoi_dec i) w).mono ?_
  rintro e w' ⟨rfl, t, rfl⟩
  exact ⟨rfl, Go.Joins.below_bytesWorld w.heap.size w 5 t (Nat.le_refl _)⟩
theorem b_AtoiL (w : World) (h : LayS w) :
    Calls Tryz.prog 74 #[.string lateB] w fun e w' => (∃ te pe, e = .returned (.tuple #[.int .i64 0, .iface te pe])) ∧ Below w.heap.size w w' := by
  obtain ⟨ev, h1, h2⟩ := h
  have := Any.strconv_Atoi_err Tryz.laysC172 lateB (by decide) (by decide) ev w h1 h2
  change Calls Tryz.prog 74 _ _ _ at this
  refine this.mono ?_
  rintro e w' ⟨N, rfl, -, -, hb⟩
  exact ⟨⟨_, _, rfl⟩, hb⟩
end Go.Proofs.YtpheklgnmbpobaaGreatDoor
namespace Go.Proofs.YtpheklgnmbpobaaGreatDoor
open Go.ChangeShapes Go.WideShapes Go.ChangeAt Go.RowKit
set_option linter.unusedVariables false
theorem trod_iface {H : Type} {enc : TypeId × Value → H} {P : Program} {w : World} {b0 : Nat} {sp : Nat → Bool} {held : Bool} {fuel : Nat} {t : TypeId} {cs : List Value} {d : DataW H} {p : List MemPlace} {ms} (ht : P.underlying t = some (.interface ms)) (h : DataW.trod enc P w b0 sp held fuel t cs = some (d, p)) : cs = [.nilIface] ∨ ∃ u v, cs = [.iface u v] := by
  cases fuel with
  | zero => simp [DataW.trod] at h
  | succ n =>
    rcases cs with _ | ⟨a, _ | ⟨b, r⟩⟩
    · simp [DataW.trod, ht] at h
    · cases a <;> simp [DataW.trod, ht] at h
      · exact .inr ⟨_, _, rfl⟩
      · exact .inl rfl
    · simp [DataW.trod, ht] at h
theorem syntax_at : Tryz.prog.globalNamed "strconv.ErrSyntax" = some 0 := by kernel_rfl
theorem syntax_type : (Tryz.prog.globals[0]?).map (·.type) = some 100 := by kernel_rfl
theorem layB_of {W : World} (h : laidMetH Tryz.prog Rows.bellEvenRow.laid W) (hsh : W.ShapedOpen Tryz.prog) : LayB W := by
  refine ⟨lay_of h hsh, ?_⟩
  rw [MakeChecks.laidMetH_plain _ _ _ (by kernel_rfl)] at h
  obtain ⟨ps, ⟨g0, t0, cs0, f0, p0, q0, hg0, ht0, hv0, hd0, ⟨g1, t1, cs1, f1, p1, q1, hg1, ht1, hv1, hd1, ⟨g2, t2, cs2, f2, p2, q2, hg2, ht2, hv2, hd2, ⟨g3, t3, cs3, f3, p3, q3, hg3, ht3, hv3, hd3, ⟨g4, t4, cs4, f4, p4, q4, hg4, ht4, hv4, hd4, ⟨g5, t5, cs5, f5, p5, q5, hg5, ht5, hv5, hd5, _, _⟩, _⟩, _⟩, _⟩, _⟩, _⟩, _, _⟩ := h
  obtain rfl := Option.some.inj (syntax_at.symm.trans hg5)
  obtain rfl := Option.some.inj (syntax_type.symm.trans ht5)
  have h1 := trod_iface Tryz.underlying100 hd5
  unfold World.var? at hv5
  rw [syntax_at] at hv5
  simp only [Option.bind_some] at hv5
  split at hv5
  · rename_i cs t fr ho
    cases hv5
    rcases h1 with h1 | ⟨u, v, h1⟩
    · have e : cs5 = #[.nilIface] := by cases cs5; simpa using h1
      exact ⟨.nilIface, by simp [World.cell?, ho, e], .inl rfl⟩
    · have e : cs5 = #[.iface u v] := by cases cs5; simpa using h1
      exact ⟨.iface u v, by simp [World.cell?, ho, e], .inr ⟨_, _, rfl⟩⟩
  · cases hv5
end Go.Proofs.YtpheklgnmbpobaaGreatDoor
namespace Go.Proofs.YtpheklgnmbpobaaGreatDoor
open Go.RowKit
set_option linter.unusedVariables false
def allW : Nat → List (List UInt8)
  | 0 => [[]]
  | n + 1 => (allW n).flatMap fun l => [l ++ [48], l ++ [49]]
def bvL : List UInt8 → Nat → Nat
  | [], k => k
  | b :: r, k => bvL r (k + k + (if b = 49 then 1 else 0))
theorem bvL_snoc (b : UInt8) : ∀ (l : List UInt8) (k : Nat), bvL (l ++ [b]) k = bvL l k + bvL l k + (if b = 49 then 1 else 0)
  | [], k => rfl
  | c :: r, k => bvL_snoc b r _
theorem allW_len : ∀ {n : Nat} {l : List UInt8}, l ∈ allW n → l.length = n
  | 0, l, h => by simp [allW] at h; subst h; rfl
  | n + 1, l, h => by
    simp only [allW, List.mem_flatMap] at h
    obtain ⟨m, hm, hl⟩ := h
    have := allW_len hm
    simp at hl
    rcases hl with rfl | rfl <;> simp [this]
theorem allW_bits : ∀ {n : Nat} {l : List UInt8}, l ∈ allW n → ∀ b ∈ l, b = 48 ∨ b = 49
  | 0, l, h => by simp [allW] at h; subst h; simp
  | n + 1, l, h => by
    simp only [allW, List.mem_flatMap] at h
    obtain ⟨m, hm, hl⟩ := h
    have := allW_bits hm
    simp at hl
    rcases hl with rfl | rfl <;> (intro b hb; rcases List.mem_append.1 hb with hb | hb; exact this b hb; simp at hb; simp [hb])
theorem allW_length : ∀ n, (allW n).length = 2 ^ n
  | 0 => rfl
  | n + 1 => by
    have h : ∀ L : List (List UInt8), (L.flatMap fun l => [l ++ [48], l ++ [49]]).length = 2 * L.length := fun L => by
      induction L with
      | nil => rfl
      | cons a r ih => rw [List.flatMap_cons, List.length_append, ih, List.length_cons]; simp; omega
    rw [allW, h, allW_length n, Nat.pow_succ]; omega
theorem range_twice : ∀ m, (List.range m).flatMap (fun v => [v + v, v + v + 1]) = List.range (m + m)
  | 0 => rfl
  | m + 1 => by
    rw [List.range_succ, List.flatMap_append, range_twice m, show m + 1 + (m + 1) = m + m + 1 + 1 by omega, List.range_succ, List.range_succ]
    simp
theorem allW_map : ∀ n, (allW n).map (fun l => bvL l 0) = List.range (2 ^ n)
  | 0 => rfl
  | n + 1 => by
    rw [Nat.pow_succ, Nat.mul_two, ← range_twice, ← allW_map n, allW, List.map_flatMap, List.flatMap_map]
    congr 1
    funext l
    simp [bvL_snoc]
def Nest (f : Nat → Nat → Nat × Bool) : Prop := ∀ k t i b, k < t → b ≤ 1 → f k t = (i, true) → f (k + k + b) (t + t) = (i, true)
theorem Nest.end {f : Nat → Nat → Nat × Bool} (h : Nest f) {i : Nat} : ∀ (l : List UInt8) (k t : Nat), k < t → f k t = (i, true) → f (bvL l k) (t * 2 ^ l.length) = (i, true)
  | [], k, t, _, e => by simpa [bvL] using e
  | b :: r, k, t, hk, e => by
    have h1 := h k t i (if b = 49 then 1 else 0) hk (by split <;> omega) e
    have h2 := h.end r _ _ (by split <;> omega) h1
    rw [bvL, List.length_cons, Nat.pow_succ, show t * (2 ^ r.length * 2) = (t + t) * 2 ^ r.length by rw [← Nat.mul_two, Nat.mul_assoc, Nat.mul_comm 2]]
    exact h2
theorem pdr_end {f : Nat → Nat → Nat × Bool} (h : Nest f) : ∀ (l : List UInt8) (k t : Nat), k < t →
    (pdr f k t l).1 = (f (bvL l k) (t * 2 ^ l.length)).2 ∧ ((pdr f k t l).1 = true → (pdr f k t l).2.1 = (f (bvL l k) (t * 2 ^ l.length)).1) ∧ ((pdr f k t l).1 = false → (pdr f k t l).2.1 = 0) := by
  intro l
  induction l with
  | nil =>
    intro k t hk
    simp only [bvL, List.length_nil, Nat.pow_zero, Nat.mul_one]
    cases hf : (f k t).2
    · rw [pdr_late hf]; simp
    · rw [pdr_done hf]; simp
  | cons b r ih =>
    intro k t hk
    cases hf : (f k t).2
    · rw [pdr_next hf]
      have := ih (k + k + (if b = 49 then 1 else 0)) (t + t) (by split <;> omega)
      rw [bvL, List.length_cons, Nat.pow_succ, show t * (2 ^ r.length * 2) = (t + t) * 2 ^ r.length by rw [← Nat.mul_two, Nat.mul_assoc, Nat.mul_comm 2]]
      exact this
    · have e : f k t = ((f k t).1, true) := by rw [← hf]
      have := h.end (b :: r) k t hk e
      rw [pdr_done hf, this]
      simp
def drawsI (f : Nat → Nat → Nat × Bool) (i : Nat) (l : List UInt8) : Bool := (pdr f 0 1 l).1 && decide ((pdr f 0 1 l).2.1 = i)
theorem draws_count {f : Nat → Nat → Nat × Bool} (h : Nest f) (n i : Nat) : (allW n).countP (drawsI f i) = (List.range (2 ^ n)).countP (fun k => decide (f k (2 ^ n) = (i, true))) := by
  rw [← allW_map n, List.countP_map]
  refine List.countP_congr fun l hl => ?_
  have hn := allW_len hl
  obtain ⟨h1, h2, h3⟩ := pdr_end h l 0 1 (by omega)
  rw [hn, Nat.one_mul] at h1 h2
  simp only [drawsI, Function.comp, Bool.and_eq_true, decide_eq_true_eq]
  constructor
  · rintro ⟨k1, k2⟩
    rw [k1] at h1
    rw [← k2, h2 k1, h1]
  · intro e
    have k1 : (pdr f 0 1 l).1 = true := by rw [h1, e]
    exact ⟨k1, by rw [h2 k1, e]⟩
theorem fstI_spec {p : Nat → Bool} {n i : Nat} (h : fstI p n = i) (hi : i < n) : p i = true ∧ ∀ j, j < i → p j = false := by
  unfold fstI at h
  subst h
  have hl : (List.range n).findIdx p < (List.range n).length := by simpa using hi
  constructor
  · have := List.findIdx_getElem (p := p) (w := hl)
    simpa using this
  · intro j hj
    have := List.not_of_lt_findIdx hj
    simpa using this
theorem pkF_iff {ws : List Nat} {k t i : Nat} (hS : 0 < ws.sum) : pkF ws k t = (i, true) ↔ i < ws.length ∧ pre ws i * t ≤ k * ws.sum ∧ k * ws.sum + ws.sum ≤ pre ws (i + 1) * t := by
  constructor
  · intro h
    unfold pkF at h
    simp only [Prod.mk.injEq, Bool.and_eq_true, decide_eq_true_eq] at h
    obtain ⟨h1, h2, h3⟩ := h
    rw [h1] at h2 h3
    obtain ⟨h4, h5⟩ := fstI_spec h1 h2
    refine ⟨h2, ?_, h3⟩
    cases i with
    | zero => rw [pre_zero]; omega
    | succ j =>
      have := h5 j (by omega)
      simpa using this
  · rintro ⟨h1, h2, h3⟩
    have e : fstI (fun i => decide (k * ws.sum < pre ws (i + 1) * t)) ws.length = i := by
      refine fstI_eq (by omega) (fun x hx => ?_) (fun _ => ?_)
      · have := Nat.mul_le_mul_right t (pre_mono ws (show x + 1 ≤ i by omega))
        simp only [decide_eq_false_iff_not, Nat.not_lt]
        omega
      · simp only [decide_eq_true_eq]; omega
    unfold pkF
    simp only [e, decide_eq_true h1, decide_eq_true h3, Bool.and_self]
theorem pkF_nest {ws : List Nat} (hS : 0 < ws.sum) : Nest (pkF ws) := by
  intro k t i b hk hb h
  rw [pkF_iff hS] at h ⊢
  obtain ⟨h1, h2, h3⟩ := h
  have e1 : ∀ x : Nat, x * (t + t) = x * t + x * t := fun x => by rw [Nat.mul_add]
  have e2 : (k + k + b) * ws.sum = k * ws.sum + k * ws.sum + b * ws.sum := by rw [Nat.add_mul, Nat.add_mul]
  have e3 : b * ws.sum ≤ ws.sum := by
    rcases (show b = 0 ∨ b = 1 by omega) with rfl | rfl <;> omega
  rw [e1, e1, e2]
  exact ⟨h1, by omega, by omega⟩
theorem cntF_iff {ws : List Nat} {k t i : Nat} (hS : 0 < ws.sum) : cntF ws t i ≤ k ↔ pre ws i * t ≤ k * ws.sum := by
  unfold cntF
  obtain ⟨a, ha⟩ : ∃ a, pre ws i * t = a := ⟨_, rfl⟩
  rw [ha]
  have h1 := Nat.div_add_mod a ws.sum
  have h2 := Nat.mod_lt a hS
  rw [Nat.mul_comm k]
  by_cases h0 : a % ws.sum = 0
  · rw [if_neg (by simpa using h0), Nat.add_zero]
    constructor
    · intro h
      have := Nat.mul_le_mul_left ws.sum h
      omega
    · intro h
      rcases Nat.lt_or_ge k (a / ws.sum) with h3 | h3
      · have := Nat.mul_le_mul_left ws.sum (show k + 1 ≤ a / ws.sum from h3)
        rw [Nat.mul_add, Nat.mul_one] at this
        omega
      · exact h3
  · rw [if_pos h0]
    constructor
    · intro h
      have := Nat.mul_le_mul_left ws.sum h
      rw [Nat.mul_add, Nat.mul_one] at this
      omega
    · intro h
      rcases Nat.lt_or_ge (a / ws.sum) k with h3 | h3
      · exact h3
      · have := Nat.mul_le_mul_left ws.sum h3
        omega
theorem cntE_iff {ws : List Nat} {k t i : Nat} (hS : 0 < ws.sum) : k + 1 ≤ cntE ws t i ↔ k * ws.sum + ws.sum ≤ pre ws (i + 1) * t := by
  unfold cntE
  rw [Nat.le_div_iff_mul_le hS, Nat.add_mul, Nat.one_mul]
theorem cntE_fit {ws : List Nat} (t i : Nat) (hS : 0 < ws.sum) : cntE ws t i ≤ t := by
  unfold cntE
  refine Nat.div_le_of_le_mul ?_
  exact Nat.mul_le_mul_right _ (pre_sum ws (i + 1))
theorem countP_range (a b : Nat) : ∀ t, (List.range t).countP (fun k => decide (a ≤ k ∧ k + 1 ≤ b)) = min b t - a
  | 0 => by simp
  | t + 1 => by
    rw [List.range_succ, List.countP_append, countP_range a b t]
    simp only [List.countP_cons, List.countP_nil, decide_eq_true_eq]
    split <;> omega
theorem pick_count {ws : List Nat} (hS : 0 < ws.sum) (n : Nat) {i : Nat} (hi : i < ws.length) : (allW n).countP (drawsI (pkF ws) i) = cnt ws (2 ^ n) i := by
  rw [draws_count (pkF_nest hS), cnt]
  have e : (fun k => decide (pkF ws k (2 ^ n) = (i, true))) = fun k => decide (cntF ws (2 ^ n) i ≤ k ∧ k + 1 ≤ cntE ws (2 ^ n) i) := by
    funext k
    rw [decide_eq_decide, pkF_iff hS, cntF_iff hS, cntE_iff hS]
    exact ⟨fun h => h.2, fun h => ⟨hi, h⟩⟩
  rw [e, countP_range]
  have := cntE_fit (ws := ws) (2 ^ n) i hS
  omega
def sumN (c : Nat → Nat) : Nat → Nat
  | 0 => 0
  | i + 1 => sumN c i + c i
theorem sumN_lwS (ws : List Nat) (t : Nat) : ∀ N, lwS ws t N = sumN (cnt ws t) N
  | 0 => rfl
  | N + 1 => by rw [lwS, sumN, sumN_lwS ws t N]
theorem sumN_congr {c d : Nat → Nat} : ∀ {N : Nat}, (∀ i, i < N → c i = d i) → sumN c N = sumN d N
  | 0, _ => rfl
  | N + 1, h => by rw [sumN, sumN, sumN_congr (fun i hi => h i (by omega)), h N (by omega)]
theorem sumN_add (c d : Nat → Nat) : ∀ N, sumN (fun i => c i + d i) N = sumN c N + sumN d N
  | 0 => rfl
  | N + 1 => by rw [sumN, sumN, sumN, sumN_add c d N]; omega
theorem sumN_zero : ∀ N, sumN (fun _ => 0) N = 0
  | 0 => rfl
  | N + 1 => by rw [sumN, sumN_zero N]
theorem sumN_one (j : Nat) : ∀ N, sumN (fun i => if j = i then 1 else 0) N = if j < N then 1 else 0
  | 0 => by simp [sumN]
  | N + 1 => by
    rw [sumN, sumN_one j N]
    by_cases h1 : j < N
    · rw [if_pos h1, if_neg (by omega), if_pos (by omega)]
    · rw [if_neg h1]
      by_cases h2 : j = N
      · rw [if_pos h2, if_pos (by omega)]
      · rw [if_neg h2, if_neg (by omega)]
theorem count_all {α : Type} (g : α → Bool × Nat) (N : Nat) : ∀ L : List α, (∀ x ∈ L, (g x).1 = true → (g x).2 < N) → sumN (fun i => L.countP (fun x => (g x).1 && decide ((g x).2 = i))) N + L.countP (fun x => !(g x).1) = L.length
  | [], _ => by simp [sumN_zero]
  | x :: r, h => by
    have ih := count_all g N r (fun y hy => h y (List.mem_cons_of_mem _ hy))
    simp only [List.countP_cons]
    rw [sumN_add, List.length_cons]
    cases hx : (g x).1
    · simp only [Bool.false_and, Bool.not_false, if_true]
      rw [show sumN (fun i => if false = true then 1 else 0) N = 0 by simpa using sumN_zero N]
      omega
    · have h1 := h x (List.mem_cons_self ..) hx
      simp only [Bool.true_and, decide_eq_true_eq]
      rw [sumN_one, if_pos h1]
      simp
      omega
theorem pick_late {ws : List Nat} (hS : 0 < ws.sum) (n : Nat) : (allW n).countP (fun l => !(pdr (pkF ws) 0 1 l).1) = 2 ^ n - lwS ws (2 ^ n) ws.length := by
  have h := count_all (fun l => ((pdr (pkF ws) 0 1 l).1, (pdr (pkF ws) 0 1 l).2.1)) ws.length (allW n) (fun l hl hd => by
    obtain ⟨h1, h2, -⟩ := pdr_end (pkF_nest hS) l 0 1 (by omega)
    dsimp only at hd ⊢
    rw [h2 hd]
    have e : pkF ws (bvL l 0) (1 * 2 ^ l.length) = ((pkF ws (bvL l 0) (1 * 2 ^ l.length)).1, true) := by rw [← hd, h1]
    exact ((pkF_iff hS).1 e).1)
  have h2 : sumN (fun i => (allW n).countP (drawsI (pkF ws) i)) ws.length + (allW n).countP (fun l => !(pdr (pkF ws) 0 1 l).1) = (allW n).length := h
  rw [allW_length, sumN_congr (d := cnt ws (2 ^ n)) (fun i hi => pick_count hS n hi), ← sumN_lwS] at h2
  omega
end Go.Proofs.YtpheklgnmbpobaaGreatDoor
namespace Go.Proofs.YtpheklgnmbpobaaGreatDoor
set_option linter.unusedVariables false
def cvo (f g : Nat → Nat) (n : Nat) : Nat := sumN (fun s => f s * g (n - s)) (n + 1)
def chi (c : Nat → Bool) (j : Nat) : Nat := if c j = true then 1 else 0
def dlt (j : Nat) : Nat := if j = 0 then 1 else 0
end Go.Proofs.YtpheklgnmbpobaaGreatDoor
namespace Go.Proofs.YtpheklgnmbpobaaGreatDoor
open Go.RowKit
def sdx (N D : Nat) : Nat → Nat × Bool
  | 0 => (N, decide (N ≠ 0))
  | j + 1 => if (sdx N D j).2 = true then (if D ≤ 2 * (sdx N D j).1 then (2 * (sdx N D j).1 - D, decide (2 * (sdx N D j).1 ≠ D)) else (2 * (sdx N D j).1, true)) else sdx N D j
def oneJ (N D : Nat) : Nat → Bool
  | 0 => false
  | j + 1 => (sdx N D j).2 && decide (D ≤ 2 * (sdx N D j).1)
def zeroJ (N D : Nat) : Nat → Bool
  | 0 => decide (N = 0)
  | j + 1 => (sdx N D j).2 && decide (2 * (sdx N D j).1 ≤ D)
end Go.Proofs.YtpheklgnmbpobaaGreatDoor
namespace Go.Proofs.YtpheklgnmbpobaaGreatDoor
open Go.RowKit
set_option linter.unusedVariables false
def cw : Nat → (List UInt8 → Bool) → Nat
  | 0, P => if P [] = true then 1 else 0
  | n + 1, P => cw n (fun l => P (48 :: l)) + cw n (fun l => P (49 :: l))
end Go.Proofs.YtpheklgnmbpobaaGreatDoor
namespace Go.Proofs
open Go.Shelf
def Tryz.lays145_ren : Go.Shelf.Ren := ⟨fun | 145 => 85 | 220 => 132 | 219 => 178 | 217 => 217 | 225 => 218 | 224 => 219 | 267 => 220 | 266 => 247 | 314 => 248 | n => n, fun | 9 => 9 | 4 => 4 | 59 => 111 | 3 => 3 | 5 => 5 | 46 => 158 | 146 => 267 | 51 => 202 | n => n, fun | 1 => 2 | n => n⟩
theorem Tryz.lays145 : Go.Proofs.Lays.n145 Tryz.prog Tryz.lays145_ren := {
  mixed := by kernel_rfl
  f145 := Tryz.func85.trans (congrArg some (by kernel_rfl))
  f217 := Tryz.func217.trans (congrArg some (by kernel_rfl))
  f219 := Tryz.func178.trans (congrArg some (by kernel_rfl))
  f220 := Tryz.func132.trans (congrArg some (by kernel_rfl))
  f224 := Tryz.func219.trans (congrArg some (by kernel_rfl))
  f225 := Tryz.func218.trans (congrArg some (by kernel_rfl))
  f266 := Tryz.func247.trans (congrArg some (by kernel_rfl))
  f267 := Tryz.func220.trans (congrArg some (by kernel_rfl))
  f314 := Tryz.func248.trans (congrArg some (by kernel_rfl))
  t3 := Tryz.underlying3
  a3 := Tryz.isAgg3
  z3 := Tryz.sizeOf3
  v3 := Tryz.zeroValue3
  t4 := Tryz.underlying4
  a4 := Tryz.isAgg4
  z4 := Tryz.sizeOf4
  v4 := Tryz.zeroValue4
  t5 := Tryz.underlying5
  a5 := Tryz.isAgg5
  z5 := Tryz.sizeOf5
  v5 := Tryz.zeroValue5
  t9 := Tryz.underlying9
  a9 := Tryz.isAgg9
  z9 := Tryz.sizeOf9
  v9 := Tryz.zeroValue9
  t46 := Tryz.underlying158
  a46 := Tryz.isAgg158
  z46 := Tryz.sizeOf158
  v46 := Tryz.zeroValue158
  t51 := Tryz.underlying202
  a51 := Tryz.isAgg202
  z51 := Tryz.sizeOf202
  v51 := Tryz.zeroValue202
  t59 := Tryz.underlying111
  a59 := Tryz.isAgg111
  z59 := Tryz.sizeOf111
  v59 := Tryz.zeroValue111
  t146 := Tryz.underlying267
  a146 := Tryz.isAgg267
  z146 := Tryz.sizeOf267
  v146 := Tryz.zeroValue267
  g1 := by kernel_rfl }
theorem Tryz.strings_Cut (s sep : ByteArray) (m : Int) (w : World) (hs : s.size < 4294967281) (hm : w.cell? ⟨2, 0, none⟩ = some (.int .i64 m)) :
    Calls Tryz.prog 85 #[.string s, .string sep] w fun e w' => e = .returned (.tuple #[.string ⟨(Lib.cut s.data.toList sep.data.toList).1.toArray⟩, .string ⟨(Lib.cut s.data.toList sep.data.toList).2.1.toArray⟩, .bool (Lib.cut s.data.toList sep.data.toList).2.2]) ∧ ∃ n, w' = w.drewN n := Any.strings_Cut Tryz.lays145 s sep m w hs hm
end Go.Proofs
namespace Go.Proofs.YtpheklgnmbpobaaGreatDoor
open Go.RowKit Go.Shelf
set_option linter.unusedVariables false
theorem l_cut (w : World) (s : ByteArray) (hs : s.size ≤ 100000000) (hL : Lay w) :
    Calls Tryz.prog 85 #[.string s, .string ⟨#[47]⟩] w fun e w' => e = .returned (.tuple #[.string (cW s), .string (cB s), .bool (cS s)]) ∧ Below w.heap.size w w' := by
  obtain ⟨m, hm⟩ := hL.max
  refine (Tryz.strings_Cut s ⟨#[47]⟩ m w (by omega) hm).mono ?_
  rintro e w' ⟨rfl, n, rfl⟩
  exact ⟨rfl, below_drewN (Below.refl _ _) n⟩
end Go.Proofs.YtpheklgnmbpobaaGreatDoor
namespace Go.Proofs.YtpheklgnmbpobaaGreatDoor
open Go.RowKit Go.Shelf
set_option linter.unusedVariables false
structure Cuts (s W B D : ByteArray) (S M I fb : Bool) : Prop where
  cut : ∀ w, Lay w → Calls Tryz.prog 85 #[.string s, .string ⟨#[47]⟩] w fun e w' => e = .returned (.tuple #[.string W, .string B, .bool S]) ∧ Below w.heap.size w w'
  int : ∀ w, Calls Tryz.prog 99 #[.string W] w fun e w' => e = .returned (.tuple #[.bool M, .string D, .bool I]) ∧ Below w.heap.size w w'
  form : ∀ w, Calls Tryz.prog 133 #[.string B] w fun e w' => e = .returned (.bool fb) ∧ Below w.heap.size w w'
theorem cuts_of (s : ByteArray) (hs : s.size ≤ 1000000) : Cuts s (cW s) (cB s) (iD (cW s)) (cS s) (iM (cW s)) (iB (cW s)) (fB (cB s)) := {
  cut := fun w hL => l_cut w s (by omega) hL
  int := fun w => f_Integer w (cW s) (by have := cW_size s; omega)
  form := fun w => l_form w (cB s) (by have := cB_size s; omega) }
set_option maxRecDepth 100000 in
set_option maxHeartbeats 4000000 in
theorem fp_bad (w : World) (s W B D : ByteArray) (S M I fb : Bool) (HL : Hid (Lay w)) (HC : Cuts s W B D S M I fb)
    (h : (I && (!S || (decide (D ≠ ⟨#[48]⟩) && fb && decide (B ≠ ⟨#[48]⟩) && decide (B ≠ ⟨#[49]⟩)))) = false) :
    Calls Tryz.prog 131 #[.string s] w fun e w' => e = .returned (.tuple #[.agg #[.bool false, .slice none 0 0, .slice none 0 0], .int .i64 3]) ∧ Below w.heap.size w w' := by
  have key : (I = false) ∨ (I = true ∧ S = true ∧ (D = ⟨#[48]⟩ ∨ (¬ D = ⟨#[48]⟩ ∧ (fb = false ∨ (fb = true ∧ (B = ⟨#[48]⟩ ∨ (¬ B = ⟨#[48]⟩ ∧ B = ⟨#[49]⟩))))))) := by
    by_cases h1 : D = ⟨#[48]⟩ <;> by_cases h2 : B = ⟨#[48]⟩ <;> by_cases h3 : B = ⟨#[49]⟩ <;> cases I <;> cases S <;> cases fb <;> simp [h1, h2, h3] at h ⊢
  have HK := hid HC
  clear HC h
  have t0 := hid (Blk.new w #[.bool false, .slice none 0 0, .slice none 0 0] 129)
  have t1 := hid ((Below.refl w.heap.size w).alloc (Nat.le_refl _) (.cells #[.bool false, .slice none 0 0, .slice none 0 0] 129))
  have t2 := hid (HL.out.call t1.out)
  rcases key with rfl | ⟨rfl, rfl, rfl | ⟨h1, rfl | ⟨rfl, rfl | ⟨h2, rfl⟩⟩⟩⟩
  · cases S
    all_goals
      go_enter Tryz.func131, Tryz.ntmps131
      go_wp2_with (first
        | (go_at_call 85; refine (HK.out.cut _ t2.out).mono ?_; rintro e w1 ⟨rfl, hb1⟩
           have x1 := hid (t0.out.call hb1)
           have y1 := hid (bnext t1.out hb1)
           clear hb1)
        | (go_at_call 99; refine (HK.out.int _).mono ?_; rintro e w2 ⟨rfl, hb2⟩
           have x2 := hid (x1.out.call hb2)
           have y2 := hid (bnext y1.out hb2)
           clear hb2
           have d0 := x2.out.cell 0
           have d1 := x2.out.cell 1
           have d2 := x2.out.cell 2
           have e0 := x2.out.free 0
           have e1 := x2.out.free 1
           have e2 := x2.out.free 2
           simp at d0 d1 d2)
        | (go_at_call 133; refine (HK.out.form _).mono ?_; rintro e w3 ⟨rfl, hb3⟩
           have x3 := hid (x2.out.call hb3)
           have y3 := hid (bnext y2.out hb3)
           clear hb3 d0 d1 d2 e0 e1 e2
           have d0 := x3.out.cell 0
           have d1 := x3.out.cell 1
           have d2 := x3.out.cell 2
           have e0 := x3.out.free 0
           have e1 := x3.out.free 1
           have e2 := x3.out.free 2
           simp at d0 d1 d2)
        | fail)
      first
        | (obtain ⟨s1, s2⟩ := set3 x3.out false none none 0 0 0 0
           have f0 := s2.cell 0
           have f1 := s2.cell 1
           have f2 := s2.cell 2
           simp at f0 f1 f2
           refine bodyPost_ret (v := .tuple #[.agg #[.bool false, .slice none 0 0, .slice none 0 0], .int .i64 3]) (by simp [results, Tryz.results131, go_sem, f0, f1, f2]) rfl ⟨rfl, ?_⟩
           exact ((y3.out.setCell (Nat.le_refl _) _).setCell (Nat.le_refl _) _).setCell (Nat.le_refl _) _)
        | (obtain ⟨s1, s2⟩ := set3 x2.out false none none 0 0 0 0
           have f0 := s2.cell 0
           have f1 := s2.cell 1
           have f2 := s2.cell 2
           simp at f0 f1 f2
           refine bodyPost_ret (v := .tuple #[.agg #[.bool false, .slice none 0 0, .slice none 0 0], .int .i64 3]) (by simp [results, Tryz.results131, go_sem, f0, f1, f2]) rfl ⟨rfl, ?_⟩
           exact ((y2.out.setCell (Nat.le_refl _) _).setCell (Nat.le_refl _) _).setCell (Nat.le_refl _) _)
  all_goals (try have i1 := ne_lit (l := [48]) h1)
  all_goals (try have i2 := ne_lit (l := [48]) h2)
  all_goals
    go_enter Tryz.func131, Tryz.ntmps131
    go_wp2_with (first
      | (go_at_call 85; refine (HK.out.cut _ t2.out).mono ?_; rintro e w1 ⟨rfl, hb1⟩
         have x1 := hid (t0.out.call hb1)
         have y1 := hid (bnext t1.out hb1)
         clear hb1)
      | (go_at_call 99; refine (HK.out.int _).mono ?_; rintro e w2 ⟨rfl, hb2⟩
         have x2 := hid (x1.out.call hb2)
         have y2 := hid (bnext y1.out hb2)
         clear hb2
         have d0 := x2.out.cell 0
         have d1 := x2.out.cell 1
         have d2 := x2.out.cell 2
         have e0 := x2.out.free 0
         have e1 := x2.out.free 1
         have e2 := x2.out.free 2
         simp at d0 d1 d2)
      | (go_at_call 133; refine (HK.out.form _).mono ?_; rintro e w3 ⟨rfl, hb3⟩
         have x3 := hid (x2.out.call hb3)
         have y3 := hid (bnext y2.out hb3)
         clear hb3 d0 d1 d2 e0 e1 e2
         have d0 := x3.out.cell 0
         have d1 := x3.out.cell 1
         have d2 := x3.out.cell 2
         have e0 := x3.out.free 0
         have e1 := x3.out.free 1
         have e2 := x3.out.free 2
         simp at d0 d1 d2)
      | fail)
    first
      | (obtain ⟨s1, s2⟩ := set3 x3.out false none none 0 0 0 0
         have f0 := s2.cell 0
         have f1 := s2.cell 1
         have f2 := s2.cell 2
         simp at f0 f1 f2
         refine bodyPost_ret (v := .tuple #[.agg #[.bool false, .slice none 0 0, .slice none 0 0], .int .i64 3]) (by simp [results, Tryz.results131, go_sem, f0, f1, f2]) rfl ⟨rfl, ?_⟩
         exact ((y3.out.setCell (Nat.le_refl _) _).setCell (Nat.le_refl _) _).setCell (Nat.le_refl _) _)
      | (obtain ⟨s1, s2⟩ := set3 x2.out false none none 0 0 0 0
         have f0 := s2.cell 0
         have f1 := s2.cell 1
         have f2 := s2.cell 2
         simp at f0 f1 f2
         refine bodyPost_ret (v := .tuple #[.agg #[.bool false, .slice none 0 0, .slice none 0 0], .int .i64 3]) (by simp [results, Tryz.results131, go_sem, f0, f1, f2]) rfl ⟨rfl, ?_⟩
         exact ((y2.out.setCell (Nat.le_refl _) _).setCell (Nat.le_refl _) _).setCell (Nat.le_refl _) _)
set_option maxRecDepth 100000 in
set_option maxHeartbeats 4000000 in
theorem fp_long (w : World) (s W B D : ByteArray) (S M fb : Bool) (HL : Hid (Lay w)) (HC : Cuts s W B D S M true fb)
    (h : S = false ∨ (S = true ∧ ¬ D = ⟨#[48]⟩ ∧ ¬ B = ⟨#[48]⟩ ∧ ¬ B = ⟨#[49]⟩ ∧ fb = true)) (hl : 4000 < D.size ∨ (¬ 4000 < D.size ∧ S = true ∧ 4000 < B.size)) :
    Calls Tryz.prog 131 #[.string s] w fun e w' => e = .returned (.tuple #[.agg #[.bool false, .slice none 0 0, .slice none 0 0], .int .i64 5]) ∧ Below w.heap.size w w' := by
  have HK := hid HC
  clear HC
  have t0 := hid (Blk.new w #[.bool false, .slice none 0 0, .slice none 0 0] 129)
  have t1 := hid ((Below.refl w.heap.size w).alloc (Nat.le_refl _) (.cells #[.bool false, .slice none 0 0, .slice none 0 0] 129))
  have t2 := hid (HL.out.call t1.out)
  rcases h with rfl | ⟨rfl, h1, h2, h3, rfl⟩
  · have q0 : decide ((4000 : Int) < (D.size : Int)) = true := by
      rcases hl with hl | ⟨_, hl, _⟩
      · simp; omega
      · cases hl
    clear hl
    go_enter Tryz.func131, Tryz.ntmps131
    go_wp2_with (first
      | (go_at_call 85; refine (HK.out.cut _ t2.out).mono ?_; rintro e w1 ⟨rfl, hb1⟩
         have x1 := hid (t0.out.call hb1)
         have y1 := hid (bnext t1.out hb1)
         clear hb1)
      | (go_at_call 99; refine (HK.out.int _).mono ?_; rintro e w2 ⟨rfl, hb2⟩
         have x2 := hid (x1.out.call hb2)
         have y2 := hid (bnext y1.out hb2)
         clear hb2
         have d0 := x2.out.cell 0
         have d1 := x2.out.cell 1
         have d2 := x2.out.cell 2
         have e0 := x2.out.free 0
         have e1 := x2.out.free 1
         have e2 := x2.out.free 2
         simp at d0 d1 d2)
      | (go_at_call 133; refine (HK.out.form _).mono ?_; rintro e w3 ⟨rfl, hb3⟩
         have x3 := hid (x2.out.call hb3)
         have y3 := hid (bnext y2.out hb3)
         clear hb3 d0 d1 d2 e0 e1 e2
         have d0 := x3.out.cell 0
         have d1 := x3.out.cell 1
         have d2 := x3.out.cell 2
         have e0 := x3.out.free 0
         have e1 := x3.out.free 1
         have e2 := x3.out.free 2
         simp at d0 d1 d2)
      | fail)
    first
      | (obtain ⟨s1, s2⟩ := set3 x3.out false none none 0 0 0 0
         have f0 := s2.cell 0
         have f1 := s2.cell 1
         have f2 := s2.cell 2
         simp at f0 f1 f2
         refine bodyPost_ret (v := .tuple #[.agg #[.bool false, .slice none 0 0, .slice none 0 0], .int .i64 5]) (by simp [results, Tryz.results131, go_sem, f0, f1, f2]) rfl ⟨rfl, ?_⟩
         exact ((y3.out.setCell (Nat.le_refl _) _).setCell (Nat.le_refl _) _).setCell (Nat.le_refl _) _)
      | (obtain ⟨s1, s2⟩ := set3 x2.out false none none 0 0 0 0
         have f0 := s2.cell 0
         have f1 := s2.cell 1
         have f2 := s2.cell 2
         simp at f0 f1 f2
         refine bodyPost_ret (v := .tuple #[.agg #[.bool false, .slice none 0 0, .slice none 0 0], .int .i64 5]) (by simp [results, Tryz.results131, go_sem, f0, f1, f2]) rfl ⟨rfl, ?_⟩
         exact ((y2.out.setCell (Nat.le_refl _) _).setCell (Nat.le_refl _) _).setCell (Nat.le_refl _) _)
  · have i1 := ne_lit (l := [48]) h1
    have i2 := ne_lit (l := [48]) h2
    have i3 := ne_lit (l := [49]) h3
    rcases hl with hl | ⟨hl, -, hl2⟩
    · have q0 : decide ((4000 : Int) < (D.size : Int)) = true := by simp; omega
      clear hl
      go_enter Tryz.func131, Tryz.ntmps131
      go_wp2_with (first
        | (go_at_call 85; refine (HK.out.cut _ t2.out).mono ?_; rintro e w1 ⟨rfl, hb1⟩
           have x1 := hid (t0.out.call hb1)
           have y1 := hid (bnext t1.out hb1)
           clear hb1)
        | (go_at_call 99; refine (HK.out.int _).mono ?_; rintro e w2 ⟨rfl, hb2⟩
           have x2 := hid (x1.out.call hb2)
           have y2 := hid (bnext y1.out hb2)
           clear hb2
           have d0 := x2.out.cell 0
           have d1 := x2.out.cell 1
           have d2 := x2.out.cell 2
           have e0 := x2.out.free 0
           have e1 := x2.out.free 1
           have e2 := x2.out.free 2
           simp at d0 d1 d2)
        | (go_at_call 133; refine (HK.out.form _).mono ?_; rintro e w3 ⟨rfl, hb3⟩
           have x3 := hid (x2.out.call hb3)
           have y3 := hid (bnext y2.out hb3)
           clear hb3 d0 d1 d2 e0 e1 e2
           have d0 := x3.out.cell 0
           have d1 := x3.out.cell 1
           have d2 := x3.out.cell 2
           have e0 := x3.out.free 0
           have e1 := x3.out.free 1
           have e2 := x3.out.free 2
           simp at d0 d1 d2)
        | fail)
      first
        | (obtain ⟨s1, s2⟩ := set3 x3.out false none none 0 0 0 0
           have f0 := s2.cell 0
           have f1 := s2.cell 1
           have f2 := s2.cell 2
           simp at f0 f1 f2
           refine bodyPost_ret (v := .tuple #[.agg #[.bool false, .slice none 0 0, .slice none 0 0], .int .i64 5]) (by simp [results, Tryz.results131, go_sem, f0, f1, f2]) rfl ⟨rfl, ?_⟩
           exact ((y3.out.setCell (Nat.le_refl _) _).setCell (Nat.le_refl _) _).setCell (Nat.le_refl _) _)
        | (obtain ⟨s1, s2⟩ := set3 x2.out false none none 0 0 0 0
           have f0 := s2.cell 0
           have f1 := s2.cell 1
           have f2 := s2.cell 2
           simp at f0 f1 f2
           refine bodyPost_ret (v := .tuple #[.agg #[.bool false, .slice none 0 0, .slice none 0 0], .int .i64 5]) (by simp [results, Tryz.results131, go_sem, f0, f1, f2]) rfl ⟨rfl, ?_⟩
           exact ((y2.out.setCell (Nat.le_refl _) _).setCell (Nat.le_refl _) _).setCell (Nat.le_refl _) _)
    · have q0 : decide ((4000 : Int) < (D.size : Int)) = false := by simp; omega
      have q1 : decide ((4000 : Int) < (B.size : Int)) = true := by simp; omega
      clear hl hl2
      go_enter Tryz.func131, Tryz.ntmps131
      go_wp2_with (first
        | (go_at_call 85; refine (HK.out.cut _ t2.out).mono ?_; rintro e w1 ⟨rfl, hb1⟩
           have x1 := hid (t0.out.call hb1)
           have y1 := hid (bnext t1.out hb1)
           clear hb1)
        | (go_at_call 99; refine (HK.out.int _).mono ?_; rintro e w2 ⟨rfl, hb2⟩
           have x2 := hid (x1.out.call hb2)
           have y2 := hid (bnext y1.out hb2)
           clear hb2
           have d0 := x2.out.cell 0
           have d1 := x2.out.cell 1
           have d2 := x2.out.cell 2
           have e0 := x2.out.free 0
           have e1 := x2.out.free 1
           have e2 := x2.out.free 2
           simp at d0 d1 d2)
        | (go_at_call 133; refine (HK.out.form _).mono ?_; rintro e w3 ⟨rfl, hb3⟩
           have x3 := hid (x2.out.call hb3)
           have y3 := hid (bnext y2.out hb3)
           clear hb3 d0 d1 d2 e0 e1 e2
           have d0 := x3.out.cell 0
           have d1 := x3.out.cell 1
           have d2 := x3.out.cell 2
           have e0 := x3.out.free 0
           have e1 := x3.out.free 1
           have e2 := x3.out.free 2
           simp at d0 d1 d2)
        | fail)
      first
        | (obtain ⟨s1, s2⟩ := set3 x3.out false none none 0 0 0 0
           have f0 := s2.cell 0
           have f1 := s2.cell 1
           have f2 := s2.cell 2
           simp at f0 f1 f2
           refine bodyPost_ret (v := .tuple #[.agg #[.bool false, .slice none 0 0, .slice none 0 0], .int .i64 5]) (by simp [results, Tryz.results131, go_sem, f0, f1, f2]) rfl ⟨rfl, ?_⟩
           exact ((y3.out.setCell (Nat.le_refl _) _).setCell (Nat.le_refl _) _).setCell (Nat.le_refl _) _)
        | (obtain ⟨s1, s2⟩ := set3 x2.out false none none 0 0 0 0
           have f0 := s2.cell 0
           have f1 := s2.cell 1
           have f2 := s2.cell 2
           simp at f0 f1 f2
           refine bodyPost_ret (v := .tuple #[.agg #[.bool false, .slice none 0 0, .slice none 0 0], .int .i64 5]) (by simp [results, Tryz.results131, go_sem, f0, f1, f2]) rfl ⟨rfl, ?_⟩
           exact ((y2.out.setCell (Nat.le_refl _) _).setCell (Nat.le_refl _) _).setCell (Nat.le_refl _) _)
end Go.Proofs.YtpheklgnmbpobaaGreatDoor
namespace Go.Proofs.YtpheklgnmbpobaaGreatDoor
open Go.RowKit Go.Shelf
theorem bN_limbs {s : ByteArray} (h : allDig s.data.toList) (hs : ¬ 4000 < s.size) : (limbs (bN s)).length ≤ 1000000 := by
  refine dv_limbs h ?_
  have : s.data.toList.length = s.size := Array.length_toList
  omega
theorem qD_false {s : ByteArray} (h : cS s = false) : qD s = ⟨#[49]⟩ := by simp [qD, h]
theorem qD_true {s : ByteArray} (h : cS s = true) : qD s = cB s := by simp [qD, h]
end Go.Proofs.YtpheklgnmbpobaaGreatDoor
namespace Go.Proofs.YtpheklgnmbpobaaGreatDoor
open Go.RowKit Go.Shelf
set_option linter.unusedVariables false
def IsF (w : World) (v : Value) (m : Bool) (n d : Nat) : Prop := ∃ N D, v = .agg #[.bool m, N, D] ∧ IsN .u64 w N n ∧ IsN .u64 w D d
def RetF (x : Int) (m : Bool) (n d : Nat) (e : Ending) (w' : World) : Prop := ∃ v, e = .returned (.tuple #[v, .int .i64 x]) ∧ (x = 0 → IsF w' v m n d) ∧ (x ≠ 0 → v = .agg #[.bool false, .slice none 0 0, .slice none 0 0])
theorem RetF.err {x : Int} {m : Bool} {n d : Nat} {w' : World} (h : x ≠ 0) : RetF x m n d (.returned (.tuple #[.agg #[.bool false, .slice none 0 0, .slice none 0 0], .int .i64 x])) w' := ⟨_, rfl, fun e => absurd e h, fun _ => rfl⟩
set_option maxRecDepth 100000 in
set_option maxHeartbeats 400000 in
theorem fp_frac (w : World) (s W B D : ByteArray) (M : Bool) (HL : Hid (Lay w)) (HC : Cuts s W B D true M true true)
    (h1 : ¬ D = ⟨#[48]⟩) (h2 : ¬ B = ⟨#[48]⟩) (h3 : ¬ B = ⟨#[49]⟩) (hl1 : ¬ 4000 < D.size) (hl2 : ¬ 4000 < B.size) (hd1 : allDig D.data.toList) (hd2 : allDig B.data.toList) :
    Calls Tryz.prog 131 #[.string s] w fun e w' => RetF (if Nat.gcd (bN D) (bN B) = 1 then 0 else 3) M (bN D) (bN B) e w' ∧ Below w.heap.size w w' := by
  obtain ⟨xc, hxc⟩ : ∃ x : Int, (if Nat.gcd (bN D) (bN B) = 1 then 0 else 3) = x := ⟨_, rfl⟩
  rw [hxc]
  have HXC := hid hxc
  clear hxc
  have HK := hid HC
  clear HC
  have t0 := hid (Blk.new w #[.bool false, .slice none 0 0, .slice none 0 0] 129)
  have t1 := hid ((Below.refl w.heap.size w).alloc (Nat.le_refl _) (.cells #[.bool false, .slice none 0 0, .slice none 0 0] 129))
  have t2 := hid (HL.out.call t1.out)
  have i1 := ne_lit (l := [48]) h1
  have i2 := ne_lit (l := [48]) h2
  have i3 := ne_lit (l := [49]) h3
  have q0 : decide ((4000 : Int) < (D.size : Int)) = false := by simp; omega
  have q1 : decide ((4000 : Int) < (B.size : Int)) = false := by simp; omega
  have L1 := hid (bN_limbs hd1 hl1)
  have L2 := hid (bN_limbs hd2 hl2)
  have P1 := fun W => hid (l_Parse W D hd1 (by omega))
  have P2 := fun W => hid (l_Parse W B hd2 (by omega))
  clear hd1 hd2 h1 h2 h3 hl1 hl2
  go_enter Tryz.func131, Tryz.ntmps131
  go_wp2_with (first
    | (go_at_call 85; refine (HK.out.cut _ t2.out).mono ?_; rintro e w1 ⟨rfl, hb1⟩
       have x1 := hid (t0.out.call hb1)
       have y1 := hid (bnext t1.out hb1)
       clear hb1)
    | (go_at_call 99; refine (HK.out.int _).mono ?_; rintro e w2 ⟨rfl, hb2⟩
       have x2 := hid (x1.out.call hb2)
       have y2 := hid (bnext y1.out hb2)
       clear hb2)
    | (go_at_call 133; refine (HK.out.form _).mono ?_; rintro e w3 ⟨rfl, hb3⟩
       have x3 := hid (x2.out.call hb3)
       have y3 := hid (bnext y2.out hb3)
       clear hb3)
    | fail)
  refine (P1 _).out.mono ?_; rintro e w4 ⟨⟨v4, rfl, hv4⟩, hb4⟩
  have x4 := hid (x3.out.call hb4)
  have y4 := hid (bnext y3.out hb4)
  have N4 := hid hv4
  clear hb4 hv4
  obtain ⟨a4, c4, rfl, _⟩ := N4.out.openI
  obtain ⟨k1, hk1⟩ : ∃ k, (limbs (dv D.data.toList)).length = k := ⟨_, rfl⟩
  rw [hk1] at N4 ⊢
  clear P1
  go_wp2_with fail
  refine (P2 _).out.mono ?_; rintro e w5 ⟨⟨v5, rfl, hv5⟩, hb5⟩
  have x5 := hid (x4.out.call hb5)
  have y5 := hid (bnext y4.out hb5)
  have N5 := hid (N4.out.call hb5)
  have D5 := hid hv5
  clear hb5 hv5
  obtain ⟨a5, c5, rfl, _⟩ := D5.out.openI
  obtain ⟨k2, hk2⟩ : ∃ k, (limbs (dv B.data.toList)).length = k := ⟨_, rfl⟩
  rw [hk2] at D5 ⊢
  clear P2
  go_wp2_with fail
  have z5 := hid (Blk.new w5 #[.bool M, .slice a4 k1 c4, .slice a5 k2 c5] 129)
  have b5 := hid ((Below.refl w5.heap.size w5).alloc (Nat.le_refl _) (.cells #[.bool M, .slice a4 k1 c4, .slice a5 k2 c5] 129))
  refine (l_Gcd _ _ _ _ _ (N5.out.call b5.out) (D5.out.call b5.out) L1.out L2.out).mono ?_
  rintro e w6 ⟨⟨v6, rfl, hv6⟩, hb6⟩
  have z6 := hid (z5.out.call hb6)
  have x6 := hid ((x5.out.call b5.out).call hb6)
  have y6 := hid (bnext (bnext y5.out b5.out) hb6)
  have N6 := hid ((N5.out.call b5.out).call hb6)
  have D6 := hid ((D5.out.call b5.out).call hb6)
  have G6 := hid hv6
  clear hb6 hv6
  obtain ⟨a6, c6, rfl, _⟩ := G6.out.openI
  go_wp2_with fail
  refine (l_One _ _ _ G6.out).mono ?_
  rintro e w7 ⟨rfl, rfl⟩
  by_cases hG : Nat.gcd (bN D) (bN B) = 1
  · have hO : isO (Nat.gcd (dv D.data.toList) (dv B.data.toList)) = true := isO_iff.2 hG
    have X0 := hid (show xc = 0 from by rw [← HXC.out, if_pos hG])
    rw [hO]
    have d0 := x6.out.cell 0
    have d1 := x6.out.cell 1
    have d2 := x6.out.cell 2
    have e0 := x6.out.free 0
    have e1 := x6.out.free 1
    have e2 := x6.out.free 2
    have g0 := z6.out.cell 0
    have g1 := z6.out.cell 1
    have g2 := z6.out.cell 2
    simp at d0 d1 d2 g0 g1 g2
    clear hO
    have HG := hid hG
    clear hG
    go_wp2_with fail
    obtain ⟨s1, s2⟩ := set3 x6.out M a4 a5 k1 c4 k2 c5
    have f0 := s2.cell 0
    have f1 := s2.cell 1
    have f2 := s2.cell 2
    simp at f0 f1 f2
    refine bodyPost_ret (v := .tuple #[.agg #[.bool M, .slice a4 k1 c4, .slice a5 k2 c5], .int .i64 0]) (by simp [results, Tryz.results131, go_sem, f0, f1, f2]) rfl ⟨by rw [X0.out]; exact ⟨_, rfl, fun _ => ⟨_, _, rfl, s1 _ _ _ N6.out, s1 _ _ _ D6.out⟩, fun h => absurd rfl h⟩, ?_⟩
    exact ((y6.out.setCell (Nat.le_refl _) _).setCell (Nat.le_refl _) _).setCell (Nat.le_refl _) _
  · have hO : isO (Nat.gcd (dv D.data.toList) (dv B.data.toList)) = false := by
      rw [Bool.eq_false_iff]
      exact fun h => hG (isO_iff.1 h)
    have X0 := hid (show xc = 3 from by rw [← HXC.out, if_neg hG])
    rw [hO]
    have d0 := x6.out.cell 0
    have d1 := x6.out.cell 1
    have d2 := x6.out.cell 2
    have e0 := x6.out.free 0
    have e1 := x6.out.free 1
    have e2 := x6.out.free 2
    simp at d0 d1 d2
    clear hO
    have HG := hid hG
    clear hG
    go_wp2_with fail
    obtain ⟨s1, s2⟩ := set3 x6.out false none none 0 0 0 0
    have f0 := s2.cell 0
    have f1 := s2.cell 1
    have f2 := s2.cell 2
    simp at f0 f1 f2
    refine bodyPost_ret (v := .tuple #[.agg #[.bool false, .slice none 0 0, .slice none 0 0], .int .i64 3]) (by simp [results, Tryz.results131, go_sem, f0, f1, f2]) rfl ⟨by rw [X0.out]; exact RetF.err (by decide), ?_⟩
    exact ((y6.out.setCell (Nat.le_refl _) _).setCell (Nat.le_refl _) _).setCell (Nat.le_refl _) _
end Go.Proofs.YtpheklgnmbpobaaGreatDoor
