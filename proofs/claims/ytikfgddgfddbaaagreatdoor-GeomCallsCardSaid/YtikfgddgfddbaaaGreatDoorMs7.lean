/- Walks: the program's rat.Make. -/
import Derived.Test.YtikfgddgfddbaaaGreatDoorMs6
import Derived.Test.YtikfgddgfddbaaaGreatDoorTie
import Derived.Test.YtikfgddgfddbaaaGreatDoorCards
import Derived.WalkKit
import Derived.ProofKit
import Derived.OpenShut
import Derived.ShutString
import Derived.Lib.SmallJoins
import Derived.LaidMore
import Derived.Lay
import Derived.Deep.DeepHandedRow
import Derived.JoinedCond
import Derived.SevenTiedAt
import Derived.Shelf.Vars
namespace Go.Proofs.YtikfgddgfddbaaaGreatDoor
open Go.RowKit
open Go.Lib (decDigits nDigits)
set_option linter.unusedVariables false
set_option linter.unusedSimpArgs false

/-- What Make gives back: the text, the error. -/
def mkE (n d : ByteArray) : Int := if iB n = false then 3 else if 4000 < (iD n).size then 5 else if errN d.data.toList ≠ 0 then errN d.data.toList else if d = ⟨#[48]⟩ then 6 else outE (qmk (iM n) (bN (iD n)) (bN d))
def mkB (n d : ByteArray) : ByteArray := if iB n = false then ⟨#[]⟩ else if 4000 < (iD n).size then ⟨#[]⟩ else if errN d.data.toList ≠ 0 then ⟨#[]⟩ else if d = ⟨#[48]⟩ then ⟨#[]⟩ else outB (qmk (iM n) (bN (iD n)) (bN d))

theorem qmk_len {m : Bool} {n d L : Nat} (hd : 0 < d) (h1 : (limbs n).length ≤ L) (h2 : (limbs d).length ≤ L) : (limbs (qmk m n d).num.natAbs).length ≤ L ∧ (limbs (qmk m n d).den).length ≤ L := by
  rw [qmk_num hd, qmk_den hd, sgn_natAbs]
  exact ⟨Nat.le_trans (limbs_length_mono (Nat.div_le_self _ _)) h1, Nat.le_trans (limbs_length_mono (Nat.div_le_self _ _)) h2⟩

set_option maxRecDepth 100000 in
set_option maxHeartbeats 2000000 in
theorem q_Make (w : World) (n d : ByteArray) (hn : n.size ≤ 1000000) (hd : d.size ≤ 1000000) (hL : Lay w) :
    Calls Tryz.prog 88 #[.string n, .string d] w fun e w' => e = .returned (.tuple #[.string (mkB n d), .int .i64 (mkE n d)]) ∧ Below w.heap.size w w' := by
  have HL := hid hL
  have hz := iD_size n
  have HI := fun V => hid (f_Integer V n (by omega))
  have HC := fun V => hid (n_Check V d (by omega))
  have HP1 := fun V h => hid (l_Parse V (iD n) h (by omega))
  have HP2 := fun V h => hid (l_Parse V d h hd)
  cases hb : iB n
  · have e1 : mkB n d = ⟨#[]⟩ := if_pos hb
    have e2 : mkE n d = 3 := if_pos hb
    rw [e1, e2]
    rw [hb] at HI
    clear e1 e2 hb hz HP1 HP2 hn hd hL
    go_enter Tryz.func88, Tryz.ntmps88
    go_wp2_with fail
    refine (HI _).out.mono ?_; rintro e w1 ⟨rfl, hb1⟩
    have b1 := hid hb1; clear hb1
    go_wp2_with fail
    go_ret2
    exact ⟨rfl, b1.out⟩
  · have nb : ¬ iB n = false := by simp [hb]
    by_cases h1 : 4000 < (iD n).size
    · have e1 : mkB n d = ⟨#[]⟩ := by rw [mkB, if_neg nb, if_pos h1]
      have e2 : mkE n d = 5 := by rw [mkE, if_neg nb, if_pos h1]
      have q0 : decide ((4000 : Int) < ((iD n).size : Nat)) = true := by simp; omega
      rw [e1, e2]
      rw [hb] at HI
      clear e1 e2 hb hz HP1 HP2 hn hd hL h1 nb
      go_enter Tryz.func88, Tryz.ntmps88
      go_wp2_with fail
      refine (HI _).out.mono ?_; rintro e w1 ⟨rfl, hb1⟩
      have b1 := hid hb1; clear hb1
      go_wp2_with fail
      go_ret2
      exact ⟨rfl, b1.out⟩
    · have q0 : decide ((4000 : Int) < ((iD n).size : Nat)) = false := by simp; omega
      by_cases h2 : errN d.data.toList = 0
      · have nc : ¬ errN d.data.toList ≠ 0 := fun h => h h2
        by_cases h3 : d = ⟨#[48]⟩
        · have e1 : mkB n d = ⟨#[]⟩ := by rw [mkB, if_neg nb, if_neg h1, if_neg nc, if_pos h3]
          have e2 : mkE n d = 6 := by rw [mkE, if_neg nb, if_neg h1, if_neg nc, if_pos h3]
          rw [e1, e2]
          rw [hb] at HI
          rw [h2] at HC
          clear e1 e2 hb hz HP1 HP2 hn hd hL h1 nb nc h2
          subst h3
          go_enter Tryz.func88, Tryz.ntmps88
          go_wp2_with fail
          refine (HI _).out.mono ?_; rintro e w1 ⟨rfl, hb1⟩
          have b1 := hid hb1; clear hb1
          go_wp2_with fail
          refine (HC _).out.mono ?_; rintro e w2 ⟨rfl, hb2⟩
          have b2 := hid (bnext b1.out hb2); clear hb2
          go_wp2_with fail
          go_ret2
          exact ⟨rfl, b2.out⟩
        · have e1 : mkB n d = outB (qmk (iM n) (bN (iD n)) (bN d)) := by rw [mkB, if_neg nb, if_neg h1, if_neg nc, if_neg h3]
          have e2 : mkE n d = outE (qmk (iM n) (bN (iD n)) (bN d)) := by rw [mkE, if_neg nb, if_neg h1, if_neg nc, if_neg h3]
          rw [e1, e2]
          have d1 := fB_dig (iB_form hb)
          obtain ⟨d2, d3, d4⟩ := errN_dig h2
          have hdp : 0 < bN d := formZ (formB_iff.2 (by obtain ⟨x, hx, _⟩ := errN_zero.1 h2; exact isForm_iff.2 ⟨x, hx⟩)) h3
          have l1 : (limbs (bN (iD n))).length ≤ 1000 := dv_limbs d1 (by rw [list_size]; omega)
          have l2 : (limbs (bN d)).length ≤ 1000 := d4
          have HP1 := fun V => HP1 V d1
          have HP2 := fun V => HP2 V d2
          have HQ := qmk_len (m := iM n) hdp l1 l2
          have HM := fun V v u hv hu => hid (f_Make V (iM n) v u (bN (iD n)) (bN d) hv hu hdp (by omega) (by omega))
          obtain ⟨Q, hQ⟩ : ∃ Q, qmk (iM n) (bN (iD n)) (bN d) = Q := ⟨_, rfl⟩
          rw [hQ] at HQ HM ⊢
          have HN := fun V v hv hL => hid (f_Num V v Q hv (by omega) (by omega) hL)
          rw [hb] at HI
          rw [h2] at HC
          have i1 := ne_lit (l := [48]) h3
          clear e1 e2 hb hz hn hd hL h1 nb nc h2 h3 d1 d2 d3 d4 hdp l1 l2 HQ hQ
          go_enter Tryz.func88, Tryz.ntmps88
          go_wp2_with fail
          refine (HI _).out.mono ?_; rintro e w1 ⟨rfl, hb1⟩
          have b1 := hid hb1; clear hb1
          go_wp2_with fail
          refine (HC _).out.mono ?_; rintro e w2 ⟨rfl, hb2⟩
          have b2 := hid (bnext b1.out hb2); clear hb2
          go_wp2_with fail
          refine (HP1 _).out.mono ?_; rintro e w3 ⟨⟨v3, rfl, hv3⟩, hb3⟩
          have b3 := hid (bnext b2.out hb3); have V3 := hid hv3; clear hb3 hv3
          go_wp2_with fail
          refine (HP2 _).out.mono ?_; rintro e w4 ⟨⟨v4, rfl, hv4⟩, hb4⟩
          have b4 := hid (bnext b3.out hb4); have V4 := hid hv4; have W3 := hid (V3.out.call hb4); clear hb4 hv4
          go_wp2_with fail
          refine (HM _ _ _ W3.out V4.out).out.mono ?_; rintro e w5 ⟨⟨v5, rfl, hv5⟩, hb5⟩
          have b5 := hid (bnext b4.out hb5); have V5 := hid hv5; clear hb5 hv5
          go_wp2_with fail
          refine (HN _ _ V5.out (HL.out.call b5.out)).out.mono ?_; rintro e w6 ⟨rfl, hb6⟩
          have b6 := hid (bnext b5.out hb6); clear hb6
          go_wp2_with fail
          go_ret2
          exact ⟨rfl, b6.out⟩
      · have e1 : mkB n d = ⟨#[]⟩ := by rw [mkB, if_neg nb, if_neg h1, if_pos h2]
        have e2 : mkE n d = errN d.data.toList := by rw [mkE, if_neg nb, if_neg h1, if_pos h2]
        rw [e1, e2]
        rw [hb] at HI
        obtain ⟨x, hx⟩ : ∃ x, errN d.data.toList = x := ⟨_, rfl⟩
        rw [hx] at HC h2 ⊢
        have q1 : (x == 0) = false := by simpa using h2
        have q2 : (x != 0) = true := by simpa using h2
        clear e1 e2 hb hz HP1 HP2 hn hd hL h1 nb h2 hx
        go_enter Tryz.func88, Tryz.ntmps88
        go_wp2_with fail
        refine (HI _).out.mono ?_; rintro e w1 ⟨rfl, hb1⟩
        have b1 := hid hb1; clear hb1
        go_wp2_with fail
        refine (HC _).out.mono ?_; rintro e w2 ⟨rfl, hb2⟩
        have b2 := hid (bnext b1.out hb2); clear hb2
        go_wp2_with fail
        go_ret2
        exact ⟨rfl, b2.out⟩
end Go.Proofs.YtikfgddgfddbaaaGreatDoor

/- Walks: geom.late, TwoLate. -/
namespace Go.Proofs.YtikfgddgfddbaaaGreatDoor
open Go.RowKit
open Go.Lib (decDigits nDigits)
set_option linter.unusedVariables false
set_option linter.unusedSimpArgs false

/-- A row of the call's own, of n + 1 numbers. -/
def OwnR (w : World) (H n : Nat) (v : Value) (l : List Nat) : Prop := ∃ g, v = .slice (some ⟨g, 0, none⟩) (n + 1) (n + 1) ∧ H ≤ g ∧ NRow w g l

/-- The table that late takes: of one series, or of two. -/
def lateL (two : Bool) (L : List Nat) (n : Nat) : List Nat := if two = true then cOut L n (n + 1) else L

theorem bN_num' (n : Nat) : bN (numB n) = n := bN_num n
theorem mk_num {a b : Nat} (ha : nDigits a ≤ 4000) (hb : nDigits b ≤ 4000) (h0 : b ≠ 0) : mkB (numB a) (numB b) = outB (qmk false a b) ∧ mkE (numB a) (numB b) = outE (qmk false a b) := by
  have e1 : iM (numB a) = false := by
    unfold iM Lib.hasPrefix
    rw [numB_list]
    exact minus_dec a
  have e2 : iD (numB a) = numB a := iD_plain e1
  have e3 : iB (numB a) = true := by
    unfold iB
    rw [e1, e2, fB_num]; rfl
  have e4 : errN (numB b).data.toList = 0 := errN_numB hb
  have e5 : ¬ (numB b = ⟨#[48]⟩) := by rw [← numB_zero]; exact numB_ne h0
  have e6 : ¬ 4000 < (iD (numB a)).size := by rw [e2, numB_size]; omega
  constructor
  · rw [mkB, if_neg (by simp [e3]), if_neg e6, if_neg (fun h => h e4), if_neg e5, e1, e2, bN_num, bN_num]
  · rw [mkE, if_neg (by simp [e3]), if_neg e6, if_neg (fun h => h e4), if_neg e5, e1, e2, bN_num, bN_num]

set_option maxRecDepth 100000 in
set_option maxHeartbeats 8000000 in
theorem g_late (w : World) (a : ByteArray) (n N D : Nat) (two : Bool) (ha : a.size ≤ 100000) (he : gPE a = 0) (hn : n ≤ 256) (hN : bN (cW a) = N) (hD : bN (qD a) = D) (hND : N < D) (hL : Lay w)
    (hR : ∀ i, i ≤ n → (lateL two (tOut (oneJ N D) (zeroJ N D) n (n + 1)).2 n).getD i 0 * 2 ^ (n - i) ≤ rIn (lateL two (tOut (oneJ N D) (zeroJ N D) n (n + 1)).2 n) n i) :
    Calls Tryz.prog 45 #[.string a, .int .i64 n, .bool two] w fun e w' => e = .returned (.tuple #[.string (outB (qmk false (rIn (lateL two (tOut (oneJ N D) (zeroJ N D) n (n + 1)).2 n) n (n + 1)) (2 ^ n))), .int .i64 0]) ∧ Below w.heap.size w w' := by
  have HA := hid (g_ratio w a ha hL)
  rw [if_pos he, if_pos he, he] at HA
  have HT := fun V hV => hid (g_totals V a n N D ha he (by omega) hN hD hND hV)
  have HRep := fun V g h => hid (s_Repeat V g (n + 1) ⟨#[48]⟩ (by omega) (by omega) h)
  have hLb := tab_bound (os := oneJ N D) (zs := zeroJ N D) rfl hn
  obtain ⟨L, hL0⟩ : ∃ L, (tOut (oneJ N D) (zeroJ N D) n (n + 1)).2 = L := ⟨_, rfl⟩
  have HLQ := hid hL0
  rw [hL0] at hLb hR ⊢
  have HLb := hid hLb
  have hM : (lateL two L n).length = n + 1 ∧ ∀ k, (lateL two L n).getD k 0 ≤ 2 ^ e7 := by
    unfold lateL
    split
    · have h := CB.outer hLb.2 (n + 1) (Nat.le_refl (n + 1))
      exact ⟨h.len, fun k => conv_bound hn (Nat.le_refl _) (h.up k)⟩
    · exact ⟨hLb.1, fun k => Nat.le_trans (hLb.2 k) (Nat.pow_le_pow_right (by omega) (by unfold e3 e7; omega))⟩
  obtain ⟨M, hM0⟩ : ∃ M, lateL two L n = M := ⟨_, rfl⟩
  have HMQ := hid hM0
  rw [hM0] at hM hR ⊢
  have HMb := hid hM; have HR := hid hR
  have hmk := mk_num (a := rIn M n (n + 1)) (b := 2 ^ n) (two_pow_digits (rIn_le M n _) (by omega)) (two_pow_digits (Nat.le_refl _) (by omega)) (by have := Nat.pow_pos (n := n) (show 0 < 2 by omega); omega)
  have hov : ¬ ovQ (qmk false (rIn M n (n + 1)) (2 ^ n)) := by
    have hd : 0 < 2 ^ n := Nat.pow_pos (by omega)
    unfold ovQ
    rw [qmk_num hd, qmk_den hd, sgn_natAbs]
    have h1 := nDigits_mono (Nat.div_le_self (rIn M n (n + 1)) (Nat.gcd (rIn M n (n + 1)) (2 ^ n)))
    have h2 := nDigits_mono (Nat.div_le_self (2 ^ n) (Nat.gcd (rIn M n (n + 1)) (2 ^ n)))
    have h3 := two_pow_digits (rIn_le M n (n + 1)) (by omega)
    have h4 := two_pow_digits (Nat.le_refl (2 ^ n)) (by omega)
    omega
  have HQM := fun V hV => hid (q_Make V (numB (rIn M n (n + 1))) (numB (2 ^ n)) (numB_sz (two_pow_digits (rIn_le M n _) (by omega))) (numB_sz (two_pow_digits (Nat.le_refl _) (by omega))) hV)
  rw [hmk.1, hmk.2, outE_ok hov] at HQM
  obtain ⟨out, hout⟩ : ∃ o, outB (qmk false (rIn M n (n + 1)) (2 ^ n)) = o := ⟨_, rfl⟩
  rw [hout] at HQM ⊢
  have HLy := hid hL; have HLL := hid hL.lt; have HN := hid hn
  have wn : IntKind.i64.wrap ((n : Int) + 1) = ((n + 1 : Nat) : Int) := by rw [IntWalk.i64_in _ ⟨by omega, by omega⟩]; omega
  have q0 : decide ((n : Int) < 0) = false := by simp
  have q1 : decide ((256 : Int) < (n : Int)) = false := by simp; omega
  have n256 : (n : Int) ≤ 256 := by omega
  clear ha he hn hN hD hND hL hR hLb hL0 hM hM0 hmk hov hout
  go_enter Tryz.func45, Tryz.ntmps45
  go_wp2_with fail
  refine HA.out.mono ?_; rintro e w1 ⟨rfl, hb1⟩
  have B1 := hid hb1
  clear hb1 HA
  go_wp2_with fail
  refine (HT _ (HLy.out.call B1.out)).out.mono ?_; rintro e w2 ⟨⟨g11, rfl, h11, hr11⟩, hb2⟩
  rw [HLQ.out] at hr11
  have R11 := hid hr11; have B2 := hid (bnext B1.out hb2); have K11 := hid (show w.heap.size ≤ g11 from Nat.le_trans B1.out.size h11)
  clear h11 hr11 hb2 HT
  go_upto_if 38 with fail
  go_cut [11] (fun s11 wx => OwnR wx w.heap.size n s11 M ∧ Below w.heap.size w wx)
  case first =>
    cases two
    · go_wp2_with fail
      go_meet
      exact ⟨⟨g11, rfl, K11.out, by rw [← HMQ.out]; exact R11.out⟩, B2.out⟩
    · go_wp2_with fail
      refine (HRep _ _ ((Blk.new w2 _ _).cell 0)).out.mono ?_; rintro e w3 ⟨rfl, hg8, hb3⟩
      obtain ⟨g12, h8⟩ : ∃ g, (w2.alloc (.cells #[.string ⟨#[48]⟩] 22)).heap.size = g := ⟨_, rfl⟩
      rw [h8] at hg8 ⊢
      have R12 := hid (NRow.zeros hg8)
      have a2 := (Below.refl w2.heap.size w2).alloc (Nat.le_refl _) (.cells #[.string ⟨#[48]⟩] 22)
      have b3 := hid (bnext a2 hb3)
      have B3 := hid (bnext B2.out b3.out); have R113 := hid (R11.out.call b3.out)
      have K12 := hid (show w.heap.size ≤ g12 by rw [← h8]; have := B2.out.size; simp; omega)
      have NE := hid (show g11 ≠ g12 by have := R11.out.lt; rw [← h8]; simp; omega)
      clear hg8 hb3 a2 h8 HRep b3
      have hc0 := hid (show NRow w3 g12 (cOut L n 0) from R12.out)
      go_wp2_with fail
      go_loopw [45] (fun ii wr => ∃ i : Nat, ii = .int .i64 (i : Nat) ∧ i ≤ n + 1 ∧ Hid (NRow wr g12 (cOut L n i)) ∧ Hid (NRow wr g11 L) ∧ Hid (Below w.heap.size w wr)) (fun ii wr => n + 1 - (intOf ii).toNat)
      case atStart => exact ⟨0, rfl, Nat.zero_le _, hc0, R113, B3⟩
      case round =>
        obtain ⟨i, rfl, hi, hg12, hg11, hB⟩ := hrel
        by_cases hlt : i < n + 1
        · have q5 : decide ((i : Int) < ((n + 1 : Nat) : Int)) = true := by simp; omega
          have f0 : (0 : Int) ≤ (i : Int) := by omega
          have f1 : (i : Int) < ((n + 1 : Nat) : Int) := by omega
          have f2 : (i : Int) ≤ 256 := by have := HN.out; omega
          have IL := hid hlt
          have CBI := hid (CB.outer (n := n) HLb.out.2 i hi)
          clear hi hlt
          go_wp2_with fail
          have d30 : decide ((i : Int) < (n : Int) + 1) = true := by have := IL.out; simp; omega
          try rw [d30]
          clear d30
          obtain ⟨wo, rfl⟩ : ∃ wo : World, wo = wr := ⟨_, rfl⟩
          obtain ⟨m0, hm0⟩ : ∃ s, cOut L n i = s := ⟨_, rfl⟩
          have hnext := hid (show cOut L n (i + 1) = cIn L i (n + 1 - i) m0 from by rw [cOut, hm0])
          rw [hm0] at hg12 CBI
          clear hm0
          go_loopw [14] (fun jj wq => ∃ j : Nat, jj = .int .i64 (j : Nat) ∧ i + j ≤ n + 1 ∧ Hid (NRow wq g12 (cIn L i j m0)) ∧ Hid (NRow wq g11 L) ∧ Hid (Below w.heap.size w wq)) (fun jj wq => n + 1 - (intOf jj).toNat)
          case atStart => exact ⟨0, rfl, by have := IL.out; omega, hg12, hg11, hB⟩
          case round =>
            clear hg12 hg11 hB
            obtain ⟨j, rfl, hj, hg12, hg11, hB⟩ := hrel
            have CBJ := hid (CB.inner CBI.out HLb.out.2 j hj)
            by_cases hlt : i + j ≤ n
            · have q6 : decide ((i : Int) + (j : Int) ≤ (n : Int)) = true := by simp; omega
              have f5 : (0 : Int) ≤ (j : Int) := by omega
              have f6 : (j : Int) < ((n + 1 : Nat) : Int) := by omega
              have f7 : (j : Int) ≤ 256 := by have := HN.out; omega
              have f8 : (i : Int) + (j : Int) < ((n + 1 : Nat) : Int) := by omega
              have f9 : (i : Int) + (j : Int) < (n : Int) + 1 := by omega
              have f10 : (0 : Int) ≤ (i : Int) + (j : Int) := by omega
              have f11 : (j : Int) < (n : Int) + 1 := by omega
              have HLT := hid hlt
              obtain ⟨y, hy⟩ : ∃ y, (cIn L i j m0).getD (i + j) 0 = y := ⟨_, rfl⟩
              obtain ⟨x1, hx1⟩ : ∃ y, L.getD i 0 = y := ⟨_, rfl⟩
              obtain ⟨x2, hx2⟩ : ∃ y, L.getD j 0 = y := ⟨_, rfl⟩
              have b1 : x1 ≤ 2 ^ e3 := hx1 ▸ HLb.out.2 i
              have b2 : x2 ≤ 2 ^ e3 := hx2 ▸ HLb.out.2 j
              have tb : i * (n + 1) + j + 1 ≤ (n + 1) * (n + 1) := by
                have h1 : (i + 1) * (n + 1) ≤ (n + 1) * (n + 1) := Nat.mul_le_mul_right _ (by omega)
                rw [Nat.succ_mul] at h1
                omega
              have by0 : y ≤ 2 ^ e7 := hy ▸ conv_bound HN.out (t := i * (n + 1) + j) (by omega) (CBJ.out.up (i + j))
              have bm : x1 * x2 ≤ 2 ^ e7 := by
                have h1 := Nat.mul_le_mul b1 b2
                rw [← Nat.pow_add] at h1
                exact Nat.le_trans h1 (Nat.pow_le_pow_right (by omega) (by unfold e3 e7; omega))
              have bs : y + x1 * x2 ≤ 2 ^ (e7 + 1) := by rw [Nat.pow_succ]; omega
              have e37 : e3 ≤ 3000 ∧ e7 + 1 ≤ 3000 := by unfold e3 e7; omega
              have P1 := fun V hV => hid (p_times V x1 x2 (two_pow_digits b1 e37.1) (two_pow_digits b2 e37.1) (two_pow_digits bm (by omega)) hV)
              have P2 := fun V hV => hid (p_plus V y (x1 * x2) (two_pow_digits by0 (by omega)) (two_pow_digits bm (by omega)) (two_pow_digits bs e37.2) hV)
              have t1 : wr.cell? ⟨g12, i + j, none⟩ = some (.string (numB y)) := by rw [← hy]; exact hg12.out.cell (by rw [CBJ.out.len]; have := HLT.out; omega)
              have t2 : wr.cell? ⟨g11, i, none⟩ = some (.string (numB x1)) := by rw [← hx1]; exact hg11.out.cell (by rw [HLb.out.1]; exact IL.out)
              have t3 : wr.cell? ⟨g11, j, none⟩ = some (.string (numB x2)) := by rw [← hx2]; exact hg11.out.cell (by rw [HLb.out.1]; have := HLT.out; omega)
              obtain ⟨u1, hu1⟩ : ∃ s, numB y = s := ⟨_, rfl⟩
              obtain ⟨u2, hu2⟩ : ∃ s, numB x1 = s := ⟨_, rfl⟩
              obtain ⟨u3, hu3⟩ : ∃ s, numB x2 = s := ⟨_, rfl⟩
              obtain ⟨u4, hu4⟩ : ∃ s, numB (x1 * x2) = s := ⟨_, rfl⟩
              obtain ⟨u5, hu5⟩ : ∃ s, numB (y + x1 * x2) = s := ⟨_, rfl⟩
              rw [hu2, hu3, hu4] at P1
              rw [hu1, hu4, hu5] at P2
              rw [hu1] at t1
              rw [hu2] at t2
              rw [hu3] at t3
              have hstep := hid (show cIn L i (j + 1) m0 = (cIn L i j m0).set (i + j) (y + x1 * x2) from by rw [cIn, cStep, hy, hx1, hx2])
              have HU5 := hid hu5
              clear hy hx1 hx2 b1 b2 tb by0 bm bs e37 hu1 hu2 hu3 hu4 hu5 hlt hj
              go_wp2_with fail
              have ew : IntKind.i64.wrap ((i : Int) + (j : Int)) = (i : Int) + (j : Int) := by rw [IntWalk.i64_in _ ⟨by omega, by omega⟩]
              have et : ((i : Int) + (j : Int)).toNat = i + j := by omega
              refine held_lasts 20 2 [0, 1, 2, 3, 4, 5, 6, 7, 8, 9, 10, 11, 12, 13, 14, 15, 16, 17] 2 (fun W' => W'.cell? ⟨g12, i + j, none⟩ = some (.string u1) ∧ W'.cell? ⟨g11, i, none⟩ = some (.string u2) ∧ W'.cell? ⟨g11, j, none⟩ = some (.string u3)) (by kernel_rfl) rfl (by kernel_rfl) (by kernel_rfl) (by kernel_rfl) (by kernel_rfl) ⟨t1, t2, t3⟩ ?_
              iterate 18
                refine ⟨_, rfl, ?_⟩
                apply Exists.intro
                refine ⟨.inl ⟨by rfl, ?_⟩, ?_⟩
                · (intro W' hW'; obtain ⟨r1, r2, r3⟩ := hW'; go_simp; try (with_reducible rfl))
                (dsimp only [Act.put]; try simp only [List.setIfInBounds_toArray, List.set_cons_zero, List.set_cons_succ])
              refine held_one (i := 18) (by kernel_rfl) (by rfl) (by rfl) ?_
              go_wp2_with fail
              refine (P1 _ (HLy.out.below hB.out.drew HLL.out)).out.mono ?_; rintro e w5 ⟨rfl, hbc⟩
              have C5 := hid (show Below wr.heap.size wr w5 from (Below.refl _ _).drew.trans hbc)
              have E5 := hid (hg12.out.call C5.out); have F5 := hid (hg11.out.call C5.out); have EB5 := hid (hB.out.trans (C5.out.mono hB.out.size))
              have s1 := (C5.out.cell (cell_lt t1)).trans t1
              have s2 := (C5.out.cell (cell_lt t2)).trans t2
              have s3 := (C5.out.cell (cell_lt t3)).trans t3
              clear hbc t1 t2 t3
              go_wp2_with fail
              refine ⟨⟨s1, s2, s3⟩, ?_⟩
              refine held_one (i := 19) (by kernel_rfl) (by rfl) (by rfl) ?_
              go_wp2_with fail
              refine (P2 _ (HLy.out.below EB5.out HLL.out)).out.mono ?_; rintro e w6 ⟨rfl, hbc⟩
              have E6 := hid (E5.out.call hbc); have F6 := hid (F5.out.call hbc); have EB6 := hid (EB5.out.trans (hbc.mono EB5.out.size))
              have v1 := (hbc.cell (cell_lt s1)).trans s1
              have v2 := (hbc.cell (cell_lt s2)).trans s2
              have v3 := (hbc.cell (cell_lt s3)).trans s3
              clear hbc s1 s2 s3
              go_wp2_with fail
              refine ⟨⟨v1, v2, v3⟩, ?_⟩
              refine wpAnyH_done (by kernel_rfl) ?_ _
              simp only [Only, ThenL, List.drop_succ_cons, List.drop_zero]
              have fz := E6.out.free (i + j)
              clear v2 v3
              go_wp2_with fail
              try simp only [Only]
              go_roundw
              case rel =>
                refine ⟨j + 1, by go_num, by have := HLT.out; omega, ?_, F6.out.other (fun e => NE.out e.symm) _, EB6.out.setCell K12.out _⟩
                show NRow _ _ _
                rw [hstep.out, ← HU5.out]
                exact E6.out.set (i + j) (y + x1 * x2)
              case measure => simp [intOf] <;> (have := HLT.out; omega)
            · have q6 : decide ((i : Int) + (j : Int) ≤ (n : Int)) = false := by simp; omega
              have e1 : j = n + 1 - i := by omega
              have f7 : (j : Int) ≤ 257 := by have := HN.out; omega
              have f5 : (0 : Int) ≤ (j : Int) := by omega
              subst e1
              clear hj hlt
              go_wp2_with fail
              go_roundw
              case rel => exact ⟨i + 1, by go_num, by have := IL.out; omega, by rw [hnext.out]; exact hg12, hg11, hB⟩
              case measure => simp [intOf] <;> (have := IL.out; omega)
        · have q5 : decide ((i : Int) < ((n + 1 : Nat) : Int)) = false := by simp; omega
          have e1 : i = n + 1 := by omega
          subst e1
          go_wp2_with fail
          go_meet
          exact ⟨⟨g12, rfl, K12.out, by rw [← HMQ.out]; exact hg12.out⟩, hB.out⟩
  case rest =>
    obtain ⟨⟨g, rfl, hg, hrow⟩, hB⟩ := hcut
    have RG := hid hrow; have KG := hid hg; have B3 := hid hB
    have HPow := fun V k (hk : k ≤ 256) hV => hid (g_power V k (by omega) hV)
    clear hrow hg hB
    go_wp2_with fail
    refine (HPow _ n HN.out (HLy.out.call B3.out)).out.mono ?_; rintro e w4 ⟨rfl, hb4⟩
    have RG4 := hid (RG.out.call hb4); have B4 := hid (bnext B3.out hb4)
    clear hb4
    go_wp2_with fail
    go_loopw [15, 82] (fun rr ii wr => ∃ i : Nat, ii = .int .i64 (i : Nat) ∧ i ≤ n + 1 ∧ rr = .string (numB (rIn M n i)) ∧ Hid (NRow wr g M) ∧ Hid (Below w.heap.size w wr)) (fun rr ii wr => n + 1 - (intOf ii).toNat)
    case atStart => exact ⟨0, rfl, Nat.zero_le _, rfl, RG4, B4⟩
    case round =>
      obtain ⟨i, rfl, hi, rfl, hrow, hB⟩ := hrel
      by_cases hlt : i < n + 1
      · have q5 : decide ((i : Int) < ((n + 1 : Nat) : Int)) = true := by simp; omega
        have f0 : (0 : Int) ≤ (i : Int) := by omega
        have f1 : (i : Int) < ((n + 1 : Nat) : Int) := by omega
        have f2 : (i : Int) ≤ 256 := by have := HN.out; omega
        have f3 : (i : Int) ≤ (n : Int) := by omega
        have w1' : IntKind.i64.wrap ((n : Int) - (i : Int)) = ((n - i : Nat) : Int) := by rw [IntWalk.i64_in _ ⟨by omega, by omega⟩]; omega
        have IL := hid hlt
        obtain ⟨x, hx⟩ : ∃ x, M.getD i 0 = x := ⟨_, rfl⟩
        have t1 : wr.cell? ⟨g, i, none⟩ = some (.string (numB x)) := by rw [← hx]; exact hrow.out.cell (by rw [HMb.out.1]; exact IL.out)
        have bx : x ≤ 2 ^ e7 := hx ▸ HMb.out.2 i
        have hle : x * 2 ^ (n - i) ≤ rIn M n i := hx ▸ HR.out i (by omega)
        have hnx := hid (show rIn M n (i + 1) = rIn M n i - x * 2 ^ (n - i) from by rw [rIn, hx])
        have br := rIn_le M n i
        obtain ⟨r, hr⟩ : ∃ r, rIn M n i = r := ⟨_, rfl⟩
        rw [hr] at hle hnx br ⊢
        have P1 := fun V hV => hid (p_times V x (2 ^ (n - i)) (two_pow_digits bx (by unfold e7; omega)) (two_pow_digits (Nat.le_refl _) (by omega)) (two_pow_digits (Nat.le_trans hle br) (by have := HN.out; omega)) hV)
        have P2 := fun V hV => hid (p_sub V r (x * 2 ^ (n - i)) (two_pow_digits br (by have := HN.out; omega)) (two_pow_digits (Nat.le_trans hle br) (by have := HN.out; omega)) hle hV)
        have P0 := fun V hV => (HPow V (n - i) (by have := HN.out; omega) hV)
        obtain ⟨u1, hu1⟩ : ∃ s, numB x = s := ⟨_, rfl⟩
        obtain ⟨u2, hu2⟩ : ∃ s, numB (2 ^ (n - i)) = s := ⟨_, rfl⟩
        obtain ⟨u3, hu3⟩ : ∃ s, numB (x * 2 ^ (n - i)) = s := ⟨_, rfl⟩
        obtain ⟨u4, hu4⟩ : ∃ s, numB r = s := ⟨_, rfl⟩
        obtain ⟨u5, hu5⟩ : ∃ s, numB (r - x * 2 ^ (n - i)) = s := ⟨_, rfl⟩
        rw [hu2] at P0
        rw [hu1, hu2, hu3] at P1
        rw [hu3, hu4, hu5] at P2
        rw [hu1] at t1
        rw [hu4]
        have HU5 := hid hu5
        clear hx bx hle br hr hu1 hu2 hu3 hu4 hu5 hi hlt HPow
        go_wp2_with fail
        refine (P0 _ (HLy.out.below hB.out HLL.out)).out.mono ?_; rintro e w5 ⟨rfl, hb5⟩
        have R5 := hid (hrow.out.call hb5); have B5 := hid (hB.out.trans (hb5.mono hB.out.size))
        clear hb5 t1
        go_wp2_with fail
        refine (P1 _ (HLy.out.below B5.out HLL.out)).out.mono ?_; rintro e w6 ⟨rfl, hb6⟩
        have R6 := hid (R5.out.call hb6); have B6 := hid (B5.out.trans (hb6.mono B5.out.size))
        clear hb6
        go_wp2_with fail
        refine (P2 _ (HLy.out.below B6.out HLL.out)).out.mono ?_; rintro e w7 ⟨rfl, hb7⟩
        have R7 := hid (R6.out.call hb7); have B7 := hid (B6.out.trans (hb7.mono B6.out.size))
        clear hb7 w1'
        go_wp2_with fail
        go_roundw
        case rel => exact ⟨i + 1, by go_num, by have := IL.out; omega, by rw [hnx.out, HU5.out], R7, B7⟩
        case measure => simp [intOf] <;> (have := IL.out; omega)
      · have q5 : decide ((i : Int) < ((n + 1 : Nat) : Int)) = false := by simp; omega
        have e1 : i = n + 1 := by omega
        subst e1
        obtain ⟨u1, hu1⟩ : ∃ s, numB (rIn M n (n + 1)) = s := ⟨_, rfl⟩
        obtain ⟨u2, hu2⟩ : ∃ s, numB (2 ^ n) = s := ⟨_, rfl⟩
        have P0 := fun V hV => (HPow V n HN.out hV)
        rw [hu1, hu2] at HQM
        rw [hu2] at P0
        rw [hu1]
        clear hu1 hu2 HPow hi hlt
        go_wp2_with fail
        refine (P0 _ (HLy.out.below hB.out HLL.out)).out.mono ?_; rintro e w5 ⟨rfl, hb5⟩
        have B5 := hid (hB.out.trans (hb5.mono hB.out.size))
        clear hb5
        go_wp2_with fail
        refine (HQM _ (HLy.out.below B5.out HLL.out)).out.mono ?_; rintro e w6 ⟨rfl, hb6⟩
        have B6 := hid (B5.out.trans (hb6.mono B5.out.size))
        clear hb6
        go_wp2_with fail
        go_ret2
        exact ⟨rfl, B6.out⟩

set_option maxRecDepth 100000 in
set_option maxHeartbeats 1000000 in
theorem g_TwoLate (w : World) (a : ByteArray) (n N D : Nat) (ha : a.size ≤ 100000) (he : gPE a = 0) (hn : n ≤ 256) (hN : bN (cW a) = N) (hD : bN (qD a) = D) (hND : N < D) (hL : Lay w)
    (hR : ∀ i, i ≤ n → (lateL true (tOut (oneJ N D) (zeroJ N D) n (n + 1)).2 n).getD i 0 * 2 ^ (n - i) ≤ rIn (lateL true (tOut (oneJ N D) (zeroJ N D) n (n + 1)).2 n) n i) :
    Calls Tryz.prog 22 #[.string a, .int .i64 n] w fun e w' => e = .returned (.tuple #[.string (outB (qmk false (rIn (lateL true (tOut (oneJ N D) (zeroJ N D) n (n + 1)).2 n) n (n + 1)) (2 ^ n))), .int .i64 0]) ∧ Below w.heap.size w w' := by
  have H := hid (g_late w a n N D true ha he hn hN hD hND hL hR)
  obtain ⟨out, hout⟩ : ∃ o, outB (qmk false (rIn (lateL true (tOut (oneJ N D) (zeroJ N D) n (n + 1)).2 n) n (n + 1)) (2 ^ n)) = o := ⟨_, rfl⟩
  rw [hout] at H ⊢
  clear ha he hn hN hD hND hL hR hout
  go_enter Tryz.func22, Tryz.ntmps22
  go_wp2_with fail
  refine H.out.mono ?_; rintro e w1 ⟨rfl, hb1⟩
  have B1 := hid hb1; clear hb1
  go_wp2_with fail
  go_ret2
  exact ⟨rfl, B1.out⟩
end Go.Proofs.YtikfgddgfddbaaaGreatDoor

/- Plain: the values of lives at its three texts. -/
namespace Go.Proofs.YtikfgddgfddbaaaGreatDoor
open Go.RowKit
open Go.Lib (decDigits nDigits)
set_option linter.unusedVariables false
set_option linter.unusedSimpArgs false

theorem numB_two : numB 2 = ⟨#[50]⟩ := by unfold numB; rw [decDigits_small (by omega)]; rfl
theorem numB_three : numB 3 = ⟨#[51]⟩ := by unfold numB; rw [decDigits_small (by omega)]; rfl
theorem numB_four : numB 4 = ⟨#[52]⟩ := by unfold numB; rw [decDigits_small (by omega)]; rfl
theorem half_tx : (⟨#[49, 47, 50]⟩ : ByteArray) = txB false 1 2 := by
  unfold txB; rw [decDigits_small (show 1 < 10 by omega), decDigits_small (show 2 < 10 by omega)]; rfl
theorem quart_tx : (⟨#[51, 47, 52]⟩ : ByteArray) = txB false 3 4 := by
  unfold txB; rw [decDigits_small (show 3 < 10 by omega), decDigits_small (show 4 < 10 by omega)]; rfl

theorem nd_small {n : Nat} (h : n < 10) : nDigits n ≤ 1 := nDigits_le (k := 1) (by omega) (by omega)

theorem cW_half : cW (txB false 1 2) = numB 1 := by apply ba_ext; rw [cW_tx, numB_list]; rfl
theorem qE_half : qE (txB false 1 2) = 0 := qE_tx (by decide) (by omega) (fun h => by cases h) (by have := nd_small (show 1 < 10 by omega); omega) (by have := nd_small (show 2 < 10 by omega); omega)
theorem gPE_half : gPE (txB false 1 2) = 0 := by
  have n1 := nd_small (show 1 < 10 by omega)
  have n2 := nd_small (show 2 < 10 by omega)
  have h1 : cmpN (cW (txB false 1 2)).data.toList (qD (txB false 1 2)).data.toList = -1 := by
    rw [cW_half, qD_tx, cmpN_num (by omega) (by omega)]; rfl
  unfold gPE
  rw [qE_half, if_neg (by simp), if_neg, if_neg]
  · rw [cW_half, qD_tx, numB_size, numB_size]; omega
  · rw [h1, iM_tx]; simp

def b1B : ByteArray := ⟨#[48, 48, 49, 48]⟩
def b2B : ByteArray := ⟨#[49, 48, 49]⟩
theorem chk_b1 : chkE b1B = 0 := by decide
theorem chk_b2 : chkE b2B = 0 := by decide
theorem b1L : b1B.data.toList = [48, 48, 49, 48] := rfl
theorem b2L : b2B.data.toList = [49, 48, 49] := rfl

/-- The even coin: each bit is one coin. -/
theorem toss_half (b : UInt8) (r : List UInt8) : toss 1 2 0 1 (b :: r) = (true, if b = 49 then 0 else 1, 1) := by
  rw [toss_next (by decide)]
  by_cases h : b = 49
  · rw [if_pos h, toss_done (by decide)]; rw [if_pos h]; rfl
  · rw [if_neg h, toss_done (by decide)]; rw [if_neg h]; rfl
theorem coin_half {l : List UInt8} {p : Nat} {b : UInt8} {r : List UInt8} (h : l.drop p = b :: r) : coinF 1 2 l p = (true, if b = 49 then 0 else 1, 1) := by
  rw [coinF_eq, h, toss_half]

theorem half_one {l : List UInt8} {m p n : Nat} {vs : List Nat} {b : UInt8} {r : List UInt8} (hm : 1 ≤ m) (hp : p ≤ l.length) (h : l.drop p = b :: r) (hb : b ≠ 49) : sr 1 2 l m p vs n = sr 1 2 l m (p + 1) vs (n + 1) := by
  have hc := coin_half h
  rw [if_neg hb] at hc
  rw [sr_one (by omega) hm hp (by rw [hc]) (by rw [hc]), hc]
theorem half_stop {l : List UInt8} {p n : Nat} {vs : List Nat} {b : UInt8} {r : List UInt8} (h : l.drop p = b :: r) (hb : b = 49) : sr 1 2 l 1 p vs n = some (vs ++ [n], p + 1) := by
  have hc := coin_half h
  rw [if_pos hb] at hc
  rw [sr_stop (by rw [hc]) (by rw [hc]; simp), hc]

theorem s1_b1 : s1 1 2 [48, 48, 49, 48] 0 0 = some (2, 3) := by
  unfold s1
  rw [half_one (by omega) (by simp) (b := 48) (r := [48, 49, 48]) rfl (by decide)]
  rw [half_one (by omega) (by simp) (b := 48) (r := [49, 48]) rfl (by decide)]
  rw [half_stop (b := 49) (r := [48]) rfl rfl]
  rfl
theorem s1_b2 : s1 1 2 [49, 48, 49] 0 0 = some (0, 1) := by
  unfold s1
  rw [half_stop (b := 49) (r := [48, 49]) rfl rfl]
  rfl
theorem s1_b3 : s1 1 2 [49, 48, 49] 1 0 = some (1, 3) := by
  unfold s1
  rw [half_one (by omega) (by simp) (b := 48) (r := [49]) rfl (by decide)]
  rw [half_stop (b := 49) (r := []) rfl rfl]
  rfl

theorem gE_b1 : gE (txB false 1 2) b1B = 0 := by unfold gE; rw [gPE_half, if_neg (by simp)]; exact chk_b1
theorem gE_b2 : gE (txB false 1 2) b2B = 0 := by unfold gE; rw [gPE_half, if_neg (by simp)]; exact chk_b2

theorem oT_b1 : oT (txB false 1 2) b1B = (true, 2, 3) := by
  rw [oT, if_pos gE_b1, cW_half, bN_num, bN_qD_tx, b1L, oneT, s1_b1]
  rfl
theorem wT_b2 : wT (txB false 1 2) b2B = (true, -1, 3) := by
  rw [wT, if_pos gE_b2, cW_half, bN_num, bN_qD_tx, b2L, twoT, s1_b2]
  dsimp only
  rw [s1_b3]
  rfl

def mL : List Nat := lateL true (tOut (oneJ 1 2) (zeroJ 1 2) 2 (2 + 1)).2 2
theorem mL_le : ∀ i, i ≤ 2 → mL.getD i 0 * 2 ^ (2 - i) ≤ rIn mL 2 i := by decide
theorem mL_r : rIn mL 2 (2 + 1) = 3 := by decide
theorem late_half : outB (qmk false (rIn mL 2 (2 + 1)) (2 ^ 2)) = txB false 3 4 := by
  rw [mL_r]
  obtain ⟨e1, e2, e3⟩ := qmk_ok (m := false) (n := 3) (d := 4) (by decide) (by omega) (fun h => by cases h)
  have n1 := nd_small (show 3 < 10 by omega)
  have n2 := nd_small (show 4 < 10 by omega)
  rw [show (2 ^ 2 : Nat) = 4 from rfl, outB, if_neg (by unfold ovQ; rw [e2, e3]; omega), txQ, e1, e2, e3]
end Go.Proofs.YtikfgddgfddbaaaGreatDoor

/- Walks: lives. -/
namespace Go.Proofs.YtikfgddgfddbaaaGreatDoor
open Go.RowKit Go.Shelf
open Go.Lib (decDigits nDigits)
set_option linter.unusedVariables false
set_option linter.unusedSimpArgs false

theorem late_12 (w : World) (hL : Lay w) : Calls Tryz.prog 22 #[.string ⟨#[49, 47, 50]⟩, .int .i64 2] w fun e w' => e = .returned (.tuple #[.string ⟨#[51, 47, 52]⟩, .int .i64 0]) ∧ Below w.heap.size w w' := by
  have H := g_TwoLate w (txB false 1 2) 2 1 2 (by rw [← half_tx]; decide) gPE_half (by omega) (by rw [cW_half, bN_num]) (bN_qD_tx _ _ _) (by omega) hL mL_le
  have e := late_half
  unfold mL at e
  rw [e, ← half_tx, ← quart_tx] at H
  exact H
theorem one_12 (w : World) (hL : Lay w) : Calls Tryz.prog 7 #[.string ⟨#[49, 47, 50]⟩, .string ⟨#[48, 48, 49, 48]⟩] w fun e w' => e = .returned (.tuple #[.agg #[.bool true, .int .i64 2, .int .i64 3], .int .i64 0]) ∧ Below w.heap.size w w' := by
  have H := g_One w (txB false 1 2) b1B (by rw [← half_tx]; decide) (by decide) hL
  rw [oT_b1, gE_b1, ← half_tx] at H
  exact H
theorem two_12 (w : World) (hL : Lay w) : Calls Tryz.prog 8 #[.string ⟨#[49, 47, 50]⟩, .string ⟨#[49, 48, 49]⟩] w fun e w' => e = .returned (.tuple #[.agg #[.bool true, .int .i64 (-1), .int .i64 3], .int .i64 0]) ∧ Below w.heap.size w w' := by
  have H := g_Two w (txB false 1 2) b2B (by rw [← half_tx]; decide) (by decide) hL
  rw [wT_b2, gE_b2, ← half_tx] at H
  exact H

set_option maxRecDepth 100000 in
set_option maxHeartbeats 1000000 in
theorem w_lives (w : World) (hL : Lay w) :
    Calls Tryz.prog 6 #[] w fun e w' => e = .returned (.bool true) ∧ Below w.heap.size w w' := by
  have H1 := fun V hV => hid (one_12 V hV)
  have H2 := fun V hV => hid (two_12 V hV)
  have H3 := fun V hV => hid (late_12 V hV)
  have b0 := hid (Below.refl w.heap.size w)
  have HL := hid hL
  clear hL
  go_enter Tryz.func6, Tryz.ntmps6
  go_wp2_with fail
  refine (H1 _ HL.out).out.mono ?_; rintro e w1 ⟨rfl, hb1⟩
  have b1 := hid hb1; clear hb1
  have X1 := hid (Blk.new w1 #[.bool true, .int .i64 2, .int .i64 3] 26)
  have B1 := hid (b1.out.alloc b1.out.size (.cells #[.bool true, .int .i64 2, .int .i64 3] 26))
  go_wp2_with fail
  refine (H2 _ (HL.out.call B1.out)).out.mono ?_; rintro e w2 ⟨rfl, hb2⟩
  have b2 := hid (bnext B1.out hb2); have x1 := hid (X1.out.call hb2); clear hb2
  have X2 := hid (Blk.new w2 #[.bool true, .int .i64 (-1), .int .i64 3] 26)
  have B2 := hid (b2.out.alloc b2.out.size (.cells #[.bool true, .int .i64 (-1), .int .i64 3] 26))
  have x1' := hid (x1.out.alloc (.cells #[.bool true, .int .i64 (-1), .int .i64 3] 26))
  go_wp2_with fail
  refine (H3 _ (HL.out.call B2.out)).out.mono ?_; rintro e w3 ⟨rfl, hb3⟩
  have b3 := hid (bnext B2.out hb3); have y1 := hid (x1'.out.call hb3); have y2 := hid (X2.out.call hb3); clear hb3
  have r0 := y1.out.cell 0
  have r1 := y1.out.cell 1
  have r2 := y1.out.cell 2
  have s0 := y2.out.cell 0
  have s1 := y2.out.cell 1
  have s2 := y2.out.cell 2
  simp at r0 r1 r2 s0 s1 s2
  go_wp2_with fail
  go_ret
  exact ⟨rfl, b3.out⟩
end Go.Proofs.YtikfgddgfddbaaaGreatDoor

/- GeomCoins: the row and the tied card. The join of the walk w_GeomCoins with the given row. -/
namespace Go.Proofs.YtikfgddgfddbaaaGreatDoor
open Go.ChangeShapes Go.WideShapes Go.ChangeAt Go.RowKit
open Go.ChangeMaps (open_string shut_string)
set_option linter.unusedVariables false

theorem pow10_type : (Tryz.prog.globals[1]?).map (·.type) = some 205 := by kernel_rfl
theorem pow10_cells : Tryz.prog.cellsOf 205 = 20 := by kernel_rfl
theorem pow10_cell : Tryz.prog.cellsOf 112 = 1 := by kernel_rfl

/-- What the row's condition and the world's shape give the walks. -/
theorem lay_of {W : World} (h : laidMetH Tryz.prog Rows.geomCoinsRow.laid W) (hsh : W.ShapedOpen Tryz.prog) : Lay W := by
  refine ⟨?_, ?_⟩
  · rw [MakeChecks.laidMetH_plain _ _ _ (by kernel_rfl)] at h
    obtain ⟨ps, ⟨g0, t0, cs0, f0, p0, q0, hg0, ht0, hv0, hd0, ⟨g1, t1, cs1, f1, p1, q1, hg1, ht1, hv1, hd1, ⟨g2, t2, cs2, f2, p2, q2, hg2, ht2, hv2, hd2, _, _⟩, _⟩, _⟩, _, _⟩ := h
    obtain rfl := Option.some.inj (tab_at.symm.trans hg2)
    obtain rfl := Option.some.inj (pow10_type.symm.trans ht2)
    have e : (Rows.laid_internal_strconv_uint64pow10 : DataW Unit) = Lib.tabData .u64 Lib.pow10Tab := by kernel_rfl
    have hd : DataW.trod (fun _ => ()) Tryz.prog W 0 (fun _ => true) false f2 205 cs2.toList = some (Lib.tabData .u64 Lib.pow10Tab, p2) := by rw [← e]; exact hd2
    unfold Lib.TabIs
    rw [hv2, ← Lib.cells_of_tab Tryz.underlying205 Tryz.underlying112 pow10_cell pow10_cells hd]
  · exact cell_of_shapedOpen_int (zero := #[.int .i64 0]) (t := 3) hsh (of_decide_eq_true (by kernel_rfl)) (by kernel_rfl) rfl (by kernel_rfl) (by kernel_rfl) Tryz.underlying3

theorem own : ownKnob Tryz.prog.godebug = none := by kernel_rfl
theorem laidOut : laidOutB Tryz.prog = true := by kernel_rfl
end Go.Proofs.YtikfgddgfddbaaaGreatDoor

/- Walks: rat.with and rat.both, for any function that is handed over. -/
namespace Go.Proofs.YtikfgddgfddbaaaGreatDoor
open Go.RowKit Go.Shelf
open Go.Lib (decDigits nDigits)
set_option linter.unusedVariables false
set_option linter.unusedSimpArgs false

/-- What comes of a text: where it is right, R and x. -/
def wB (R : ByteArray) (s : ByteArray) : ByteArray := if qE s = 0 then R else ⟨#[]⟩
def wE (x : Int) (s : ByteArray) : Int := if qE s = 0 then x else qE s

theorem isQ_of {w : World} {v : Value} {s : ByteArray} (hq : qE s = 0) (h : IsF w v (iM (cW s)) (bN (iD (cW s))) (bN (qD s))) : IsQ .u64 w v (vQ s) := by
  obtain ⟨N, D, rfl, h1, h2⟩ := h
  obtain ⟨e1, e2, e3⟩ := vQ_ok hq
  exact ⟨N, D, by rw [e1], by rw [e2]; exact h1, by rw [e3]; exact h2⟩

set_option maxRecDepth 100000 in
set_option maxHeartbeats 1000000 in
theorem q_with (w : World) (s : ByteArray) (F : Nat) (cs : Array Value) (R : ByteArray) (x : Int) (hs : s.size ≤ 1000000) (hL : Lay w)
    (hen : ∀ args w, (callFunc F args).run Tryz.prog w = .ok (.enter F args) w)
    (hF : ∀ W v, qE s = 0 → Below w.heap.size w W → IsQ .u64 W v (vQ s) → Lay W → Calls Tryz.prog F (#[v] ++ cs) W fun e w' => e = .returned (.tuple #[.string R, .int .i64 x]) ∧ Below W.heap.size W w') :
    Calls Tryz.prog 107 #[.string s, .func (.func F) #[] cs] w fun e w' => e = .returned (.tuple #[.string (wB R s), .int .i64 (wE x s)]) ∧ Below w.heap.size w w' := by
  have HP := hid (f_Parse w s hs hL)
  have HL := hid hL
  have HF := hid hF
  clear hF hs hL
  by_cases h1 : qE s = 0
  · have e1 : wB R s = R := if_pos h1
    have e2 : wE x s = x := if_pos h1
    rw [e1, e2]
    have HQ := hid h1
    rw [h1] at HP
    clear h1 e1 e2
    go_enter Tryz.func107, Tryz.ntmps107
    go_wp2_with fail
    refine HP.out.mono ?_; rintro e w1 ⟨⟨v, rfl, hv, -⟩, hb1⟩
    have hq := isQ_of HQ.out (hv rfl)
    have y1 := hid hb1
    obtain ⟨N, D, hvv, hN, hD⟩ := hv rfl
    subst hvv
    obtain ⟨a, c, rfl, _⟩ := hN.openI
    obtain ⟨a', c', rfl, _⟩ := hD.openI
    obtain ⟨k, hk⟩ : ∃ k, (limbs (bN (iD (cW s)))).length = k := ⟨_, rfl⟩
    obtain ⟨k', hk'⟩ : ∃ k, (limbs (bN (qD s))).length = k := ⟨_, rfl⟩
    obtain ⟨m, hm⟩ : ∃ m, iM (cW s) = m := ⟨_, rfl⟩
    rw [hk, hk', hm] at hq
    rw [hk, hk', hm]
    have Q1 := hid hq
    have X2 := hid (Blk.new w1 #[.bool m, .slice a k c, .slice a' k' c'] 110)
    have b2 := hid ((Below.refl w1.heap.size w1).alloc (Nat.le_refl _) (.cells #[.bool m, .slice a k c, .slice a' k' c'] 110))
    have y2 := hid (bnext y1.out b2.out)
    have Q2 := hid (hq.call b2.out)
    have r0 := X2.out.cell 0
    have r1 := X2.out.cell 1
    have r2 := X2.out.cell 2
    simp at r0 r1 r2
    clear hb1 hv hN hD hk hk' hm hq b2
    go_wp2_with fail
    refine (HF.out _ _ HQ.out y2.out Q2.out (HL.out.call y2.out)).mono ?_; rintro e w3 ⟨rfl, hb3⟩
    have y3 := hid (bnext y2.out hb3); clear hb3
    go_wp2_with fail
    go_ret2
    exact ⟨rfl, y3.out⟩
  · have e1 : wB R s = ⟨#[]⟩ := if_neg h1
    have e2 : wE x s = qE s := if_neg h1
    rw [e1, e2]
    obtain ⟨y, hy⟩ : ∃ y, qE s = y := ⟨_, rfl⟩
    rw [hy] at HP h1 ⊢
    have q0 : (y == 0) = false := by simpa using h1
    have q1 : (y != 0) = true := by simpa using h1
    have H1 := hid h1
    clear e1 e2 hy h1
    go_enter Tryz.func107, Tryz.ntmps107
    go_wp2_with fail
    refine HP.out.mono ?_; rintro e w1 ⟨⟨v, rfl, -, hv⟩, hb1⟩
    have hv' := hv H1.out
    subst hv'
    have y1 := hid hb1
    have y2 := hid (y1.out.alloc y1.out.size (.cells #[.bool false, .slice none 0 0, .slice none 0 0] 110))
    clear hb1 hv
    go_wp2_with fail
    go_ret2
    exact ⟨rfl, y2.out⟩
end Go.Proofs.YtikfgddgfddbaaaGreatDoor

/- Walks: rat.both. -/
namespace Go.Proofs.YtikfgddgfddbaaaGreatDoor
open Go.RowKit Go.Shelf
open Go.Lib (decDigits nDigits)
set_option linter.unusedVariables false
set_option linter.unusedSimpArgs false

/-- What comes of two texts. -/
def tB (R : ByteArray) (s t : ByteArray) : ByteArray := wB (wB R t) s
def tE (x : Int) (s t : ByteArray) : Int := wE (wE x t) s

set_option maxRecDepth 100000 in
set_option maxHeartbeats 1000000 in
theorem q_both11 (w : World) (v u : Value) (p q : Rat) (F g1 g2 : Nat) (R : ByteArray) (x : Int) (hv : IsQ .u64 w v p) (hu : IsQ .u64 w u q) (hL : Lay w)
    (hen : ∀ args w, (callFunc F args).run Tryz.prog w = .ok (.enter F args) w)
    (c1 : w.cell? ⟨g1, 0, none⟩ = some (.func (.func F) #[] #[])) (m : Bool) (a a' : Option Addr) (k c k' c' : Nat) (hv0 : v = .agg #[.bool m, .slice a k c, .slice a' k' c'])
    (c2 : Blk w g2 #[.bool m, .slice a k c, .slice a' k' c'] 110)
    (hF : ∀ W v u, IsQ .u64 W v p → IsQ .u64 W u q → Lay W → Calls Tryz.prog F #[v, u] W fun e w' => e = .returned (.tuple #[.string R, .int .i64 x]) ∧ Below W.heap.size W w') :
    Calls Tryz.prog 163 #[u, .pointer (some ⟨g1, 0, none⟩), .pointer (some ⟨g2, 0, none⟩)] w fun e w' => e = .returned (.tuple #[.string R, .int .i64 x]) ∧ Below w.heap.size w w' := by
  have HF := hid hF
  have HL := hid hL
  obtain ⟨N, D, rfl, hN, hD⟩ := hu.ex
  obtain ⟨a1, d1, rfl, _⟩ := hN.openI
  obtain ⟨a2, d2, rfl, _⟩ := hD.openI
  obtain ⟨k1, hk1⟩ : ∃ k, (limbs q.num.natAbs).length = k := ⟨_, rfl⟩
  obtain ⟨k2, hk2⟩ : ∃ k, (limbs q.den).length = k := ⟨_, rfl⟩
  obtain ⟨mu, hmu⟩ : ∃ m, decide (q.num < 0) = m := ⟨_, rfl⟩
  rw [hk1, hk2, hmu] at hu
  rw [hk1, hk2, hmu]
  subst hv0
  have X2 := hid (Blk.new w #[.bool mu, .slice a1 k1 d1, .slice a2 k2 d2] 110)
  have b2 := hid ((Below.refl w.heap.size w).alloc (Nat.le_refl _) (.cells #[.bool mu, .slice a1 k1 d1, .slice a2 k2 d2] 110))
  have V2 := hid (hv.call b2.out)
  have U2 := hid (hu.call b2.out)
  have C1 := (b2.out.cell (cell_lt c1)).trans c1
  have C2 := hid (c2.call b2.out)
  have r0 := X2.out.cell 0
  have r1 := X2.out.cell 1
  have r2 := X2.out.cell 2
  have s0 := C2.out.cell 0
  have s1 := C2.out.cell 1
  have s2 := C2.out.cell 2
  simp at r0 r1 r2 s0 s1 s2
  clear hk1 hk2 hmu hN hD hv hu c1 c2 hF hL
  go_enter Tryz.func163, Tryz.ntmps163
  go_wp2_with fail
  refine (HF.out _ _ _ V2.out U2.out (HL.out.call b2.out)).mono ?_; rintro e w3 ⟨rfl, hb3⟩
  have y3 := hid (bnext b2.out hb3); clear hb3
  go_wp2_with fail
  go_ret2
  exact ⟨rfl, y3.out⟩

set_option maxRecDepth 100000 in
set_option maxHeartbeats 1000000 in
theorem q_both1 (w : World) (v : Value) (t : ByteArray) (p : Rat) (F g1 g2 : Nat) (R : ByteArray) (x : Int) (ht : t.size ≤ 1000000) (hv : IsQ .u64 w v p) (hL : Lay w)
    (hen : ∀ args w, (callFunc F args).run Tryz.prog w = .ok (.enter F args) w)
    (c1 : w.cell? ⟨g1, 0, none⟩ = some (.string t)) (c2 : w.cell? ⟨g2, 0, none⟩ = some (.func (.func F) #[] #[]))
    (hF : ∀ W v u, qE t = 0 → IsQ .u64 W v p → IsQ .u64 W u (vQ t) → Lay W → Calls Tryz.prog F #[v, u] W fun e w' => e = .returned (.tuple #[.string R, .int .i64 x]) ∧ Below W.heap.size W w') :
    Calls Tryz.prog 162 #[v, .pointer (some ⟨g1, 0, none⟩), .pointer (some ⟨g2, 0, none⟩)] w fun e w' => e = .returned (.tuple #[.string (wB R t), .int .i64 (wE x t)]) ∧ Below w.heap.size w w' := by
  have HF := hid hF
  have HL := hid hL
  have HEN := hid hen
  obtain ⟨N, D, rfl, hN, hD⟩ := hv.ex
  obtain ⟨a1, d1, rfl, _⟩ := hN.openI
  obtain ⟨a2, d2, rfl, _⟩ := hD.openI
  obtain ⟨k1, hk1⟩ : ∃ k, (limbs p.num.natAbs).length = k := ⟨_, rfl⟩
  obtain ⟨k2, hk2⟩ : ∃ k, (limbs p.den).length = k := ⟨_, rfl⟩
  obtain ⟨mu, hmu⟩ : ∃ m, decide (p.num < 0) = m := ⟨_, rfl⟩
  rw [hk1, hk2, hmu] at hv
  rw [hk1, hk2, hmu]
  have X2 := hid (Blk.new w #[.bool mu, .slice a1 k1 d1, .slice a2 k2 d2] 110)
  have b2 := hid ((Below.refl w.heap.size w).alloc (Nat.le_refl _) (.cells #[.bool mu, .slice a1 k1 d1, .slice a2 k2 d2] 110))
  have V2 := hid (hv.call b2.out)
  have C1 := (b2.out.cell (cell_lt c1)).trans c1
  have C2 := hid ((b2.out.cell (cell_lt c2)).trans c2)
  have L2 := hid (HL.out.call b2.out)
  obtain ⟨w2, hw2⟩ : ∃ w2, w.alloc (.cells #[.bool mu, .slice a1 k1 d1, .slice a2 k2 d2] 110) = w2 := ⟨_, rfl⟩
  obtain ⟨g3, hg3⟩ : ∃ g, w.heap.size = g := ⟨_, rfl⟩
  have W2 := hid (q_with w2 t 163 #[.pointer (some ⟨g2, 0, none⟩), .pointer (some ⟨g3, 0, none⟩)] R x ht (hw2 ▸ L2.out) (enters_of Tryz.func163 (by kernel_rfl) rfl)
    (fun W u hq hb hu hLW => by
      subst hw2
      subst hg3
      have hVW := V2.out.call hb
      have hX := X2.out.call hb
      have hC := (hb.cell (cell_lt C2.out)).trans C2.out
      exact q_both11 W _ u p (vQ t) F g2 w.heap.size R x hVW hu hLW HEN.out hC mu a1 a2 k1 d1 k2 d2 rfl hX (fun W v u h1 h2 h3 => HF.out W v u hq h1 h2 h3)))
  rw [hw2] at C1
  clear hk1 hk2 hmu hN hD hv c1 c2 hF hL hen
  go_enter Tryz.func162, Tryz.ntmps162
  go_wp2_with fail
  refine W2.out.mono ?_; rintro e w3 ⟨rfl, hb3⟩
  have y3 := hid (bnext b2.out (hw2 ▸ hb3)); clear hb3
  go_wp2_with fail
  go_ret2
  exact ⟨rfl, y3.out⟩
end Go.Proofs.YtikfgddgfddbaaaGreatDoor

/- Walks: the program's fractions: Mul, Div. -/
namespace Go.Proofs.YtikfgddgfddbaaaGreatDoor
open Go.RowKit
set_option linter.unusedVariables false
set_option linter.unusedSimpArgs false

/-- The six cells of two fractions that lie in the blocks b and b + 1. -/
def twoF (b : Nat) (m1 m2 : Bool) (n1 d1 n2 d2 : Value) (w : World) : Prop :=
  w.cell? ⟨b, 0, none⟩ = some (.bool m1) ∧ w.cell? ⟨b, 1, none⟩ = some n1 ∧ w.cell? ⟨b, 2, none⟩ = some d1 ∧ w.cell? ⟨b + 1, 0, none⟩ = some (.bool m2) ∧ w.cell? ⟨b + 1, 1, none⟩ = some n2 ∧ w.cell? ⟨b + 1, 2, none⟩ = some d2

/-- Three blocks are laid: two fractions and a result. -/
structure Three (w W : World) (m1 m2 : Bool) (n1 d1 n2 d2 : Value) : Prop where
  below : Below w.heap.size w W
  size : W.heap.size = w.heap.size + 3
  b0 : Blk W w.heap.size #[.bool m1, n1, d1] 110
  b1 : Blk W (w.heap.size + 1) #[.bool m2, n2, d2] 110
  b2 : Blk W (w.heap.size + 1 + 1) #[.bool false, .slice none 0 0, .slice none 0 0] 110

theorem Three.mk' {w W : World} {m1 m2 : Bool} {n1 d1 n2 d2 : Value} (h : ((w.alloc (.cells #[.bool m1, n1, d1] 110)).alloc (.cells #[.bool m2, n2, d2] 110)).alloc (.cells #[.bool false, .slice none 0 0, .slice none 0 0] 110) = W) : Three w W m1 m2 n1 d1 n2 d2 := by
  subst h
  exact ⟨(((Below.refl _ _).alloc (Nat.le_refl _) _).alloc (by simp) _).alloc (by simp; omega) _, by simp, ((Blk.new w _ _).alloc _).alloc _, (Blk.made (w.alloc _) _ _ (by simp)).alloc _, Blk.made ((w.alloc _).alloc _) _ _ (by simp)⟩

theorem Three.cells {w W V : World} {m1 m2 : Bool} {n1 d1 n2 d2 : Value} (h : Three w W m1 m2 n1 d1 n2 d2) (hb : Below W.heap.size W V) : twoF w.heap.size m1 m2 n1 d1 n2 d2 V :=
  have y0 := h.b0.call hb
  have y1 := h.b1.call hb
  ⟨y0.cell 0, y0.cell 1, y0.cell 2, y1.cell 0, y1.cell 1, y1.cell 2⟩

/-- Behind the stores into the result. -/
theorem Three.stored {w W V : World} {m1 m2 : Bool} {n1 d1 n2 d2 : Value} (h : Three w W m1 m2 n1 d1 n2 d2) (hb : Below W.heap.size W V) (x y z : Value) : twoF w.heap.size m1 m2 n1 d1 n2 d2 (((V.setCell ⟨w.heap.size + 1 + 1, 0, none⟩ x).setCell ⟨w.heap.size + 1 + 1, 1, none⟩ y).setCell ⟨w.heap.size + 1 + 1, 2, none⟩ z) :=
  have y0 := ((((h.b0.call hb).other (a := ⟨w.heap.size + 1 + 1, 0, none⟩) (by simp; omega) x).other (a := ⟨w.heap.size + 1 + 1, 1, none⟩) (by simp; omega) y).other (a := ⟨w.heap.size + 1 + 1, 2, none⟩) (by simp; omega) z)
  have y1 := ((((h.b1.call hb).other (a := ⟨w.heap.size + 1 + 1, 0, none⟩) (by simp) x).other (a := ⟨w.heap.size + 1 + 1, 1, none⟩) (by simp) y).other (a := ⟨w.heap.size + 1 + 1, 2, none⟩) (by simp) z)
  ⟨y0.cell 0, y0.cell 1, y0.cell 2, y1.cell 0, y1.cell 1, y1.cell 2⟩

set_option maxRecDepth 100000 in
set_option maxHeartbeats 2000000 in
theorem f_Mul (w : World) (v u : Value) (p q : Rat) (hp : IsQ .u64 w v p) (hq : IsQ .u64 w u q)
    (h1 : (limbs p.num.natAbs).length ≤ 100000) (h2 : (limbs p.den).length ≤ 100000) (h3 : (limbs q.num.natAbs).length ≤ 100000) (h4 : (limbs q.den).length ≤ 100000) :
    Calls Tryz.prog 115 #[v, u] w fun e w' => RetQ .u64 (p * q) e w' ∧ Below w.heap.size w w' := by
  have hq0 := qmk_mul p q
  obtain ⟨Q, hQ⟩ : ∃ Q, p * q = Q := ⟨_, rfl⟩
  rw [hQ] at hq0 ⊢
  have hD := hid (Nat.mul_pos p.den_pos q.den_pos)
  obtain ⟨N1, D1, rfl, hn1, hd1⟩ := hp.ex
  obtain ⟨N2, D2, rfl, hn2, hd2⟩ := hq.ex
  clear hp hq hQ
  generalize decide (p.num < 0) = m1 at *
  generalize decide (q.num < 0) = m2 at *
  generalize p.num.natAbs = n1 at *
  generalize q.num.natAbs = n2 at *
  generalize p.den = d1 at *
  generalize q.den = d2 at *
  have HQ := hid hq0
  clear hq0
  have HN1 := hid hn1; have HD1 := hid hd1; have HN2 := hid hn2; have HD2 := hid hd2
  have L1 := hid (Nat.le_trans (len_mul h1 h3) (show 100000 + 100000 ≤ 1000000 by omega))
  have L2 := hid (Nat.le_trans (len_mul h2 h4) (show 100000 + 100000 ≤ 1000000 by omega))
  have H1 := hid (Nat.le_trans h1 (show 100000 ≤ 1000000 by omega))
  have H2 := hid (Nat.le_trans h2 (show 100000 ≤ 1000000 by omega))
  have H3 := hid (Nat.le_trans h3 (show 100000 ≤ 1000000 by omega))
  have H4 := hid (Nat.le_trans h4 (show 100000 ≤ 1000000 by omega))
  clear h1 h2 h3 h4
  obtain ⟨a1, c1, rfl, _⟩ := hn1.openI
  obtain ⟨a2, c2, rfl, _⟩ := hd1.openI
  obtain ⟨a3, c3, rfl, _⟩ := hn2.openI
  obtain ⟨a4, c4, rfl, _⟩ := hd2.openI
  clear hn1 hd1 hn2 hd2
  go_enter Tryz.func115, Tryz.ntmps115
  go_wp2_with fail
  obtain ⟨W, hW⟩ : ∃ W, ((w.alloc (.cells #[.bool m1, .slice a1 (limbs n1).length c1, .slice a2 (limbs d1).length c2] 110)).alloc (.cells #[.bool m2, .slice a3 (limbs n2).length c3, .slice a4 (limbs d2).length c4] 110)).alloc (.cells #[.bool false, .slice none 0 0, .slice none 0 0] 110) = W := ⟨_, rfl⟩
  have T := hid (Three.mk' hW)
  rw [hW]
  clear hW
  have hS := T.out.cells (Below.refl _ _).drew
  have B0 := hid (T.out.below.drew)
  have C0 := hid ((Below.refl W.heap.size W).drew)
  refine held_plain [0, 1, 2, 3, 4, 5, 6, 7, 8, 10, 11, 12, 13] 4 (twoF w.heap.size m1 m2 (.slice a1 (limbs n1).length c1) (.slice a2 (limbs d1).length c2) (.slice a3 (limbs n2).length c3) (.slice a4 (limbs d2).length c4)) (by kernel_rfl) (by kernel_rfl) (by kernel_rfl) (by kernel_rfl) hS ?_
  iterate 13
    refine ⟨_, rfl, ?_⟩
    apply Exists.intro
    refine ⟨.inl ⟨by rfl, ?_⟩, ?_⟩
    · (intro W' hW'; obtain ⟨q1, q2, q3, q4, q5, q6⟩ := hW'; go_simp; try (with_reducible rfl))
    (dsimp only [Act.put]; try simp only [List.setIfInBounds_toArray, List.set_cons_zero, List.set_cons_succ])
  clear hS
  refine held_one (i := 9) (by kernel_rfl) (by rfl) (by rfl) ?_
  go_wp2_with fail
  refine (l_Mul _ _ _ n1 n2 (HN1.out.call B0.out) (HN2.out.call B0.out) H1.out H3.out).mono ?_; rintro e w1 ⟨⟨v1, rfl, hv1⟩, hb1⟩
  have B1 := hid (B0.out.trans (hb1.mono B0.out.size)); have C1 := hid (bnext C0.out hb1); have V1 := hid hv1
  clear hb1 hv1
  go_wp2_with fail
  refine ⟨T.out.cells C1.out, ?_⟩
  refine held_one (i := 14) (by kernel_rfl) (by rfl) (by rfl) ?_
  go_wp2_with fail
  refine (l_Mul _ _ _ d1 d2 (HD1.out.call B1.out) (HD2.out.call B1.out) H2.out H4.out).mono ?_; rintro e w2 ⟨⟨v2, rfl, hv2⟩, hb2⟩
  have B2 := hid (B1.out.trans (hb2.mono B1.out.size)); have C2 := hid (bnext C1.out hb2); have V2 := hid hv2; have W1 := hid (V1.out.call hb2)
  clear hb2 hv2
  go_wp2_with fail
  refine ⟨T.out.cells C2.out, ?_⟩
  refine held_one (i := 15) (by kernel_rfl) (by rfl) (by rfl) ?_
  go_wp2_with fail
  refine (f_Make _ _ _ _ (n1 * n2) (d1 * d2) W1.out V2.out hD.out L1.out L2.out).mono ?_; rintro e w3 ⟨⟨v3, rfl, hv3⟩, hb3⟩
  have hbn : (!(m1 == m2)) = (m1 != m2) := rfl
  rw [hbn, HQ.out] at hv3
  clear hbn
  have B3 := hid (B2.out.trans (hb3.mono B2.out.size)); have C3 := hid (bnext C2.out hb3)
  clear hb3
  obtain ⟨N3, D3, rfl, hN3, hD3⟩ := hv3.ex
  obtain ⟨a5, c5, rfl, _⟩ := hN3.openI
  obtain ⟨a6, c6, rfl, _⟩ := hD3.openI
  obtain ⟨k5, hk5⟩ : ∃ k, (limbs Q.num.natAbs).length = k := ⟨_, rfl⟩
  obtain ⟨k6, hk6⟩ : ∃ k, (limbs Q.den).length = k := ⟨_, rfl⟩
  obtain ⟨mq, hmq⟩ : ∃ m, decide (Q.num < 0) = m := ⟨_, rfl⟩
  rw [hk5] at hN3 ⊢
  rw [hk6] at hD3 ⊢
  rw [hmq]
  have HN3 := hid hN3; have HD3 := hid hD3; have HMQ := hid hmq
  have Z := hid (T.out.b2.call C3.out)
  have t0 := Z.out.cell 0
  have t1 := Z.out.cell 1
  have t2 := Z.out.cell 2
  have t3 := Z.out.free 0
  have t4 := Z.out.free 1
  have t5 := Z.out.free 2
  simp at t0 t1 t2
  clear hv3 hN3 hD3 hk5 hk6 hmq
  go_wp2_with fail
  refine ⟨T.out.cells C3.out, ?_⟩
  refine held_one (i := 16) (by kernel_rfl) (by rfl) (by rfl) ?_
  go_wp2_with fail
  refine ⟨T.out.stored C3.out _ _ _, ?_⟩
  refine wpAnyH_done (by kernel_rfl) ?_ _
  simp only [Only]
  obtain ⟨s1, s2⟩ := set3 Z.out mq a5 a6 k5 c5 k6 c6
  have f0 := s2.cell 0
  have f1 := s2.cell 1
  have f2 := s2.cell 2
  simp at f0 f1 f2
  clear t0 t1 t2 t3 t4 t5
  go_wp2_with fail
  refine bodyPost_ret (v := .agg #[.bool mq, .slice a5 k5 c5, .slice a6 k6 c6]) (by simp [results, Tryz.results115, go_sem, f0, f1, f2]) rfl ⟨⟨_, rfl, ⟨.slice a5 k5 c5, .slice a6 k6 c6, by rw [HMQ.out], s1 _ _ _ HN3.out, s1 _ _ _ HD3.out⟩⟩, ?_⟩
  exact ((B3.out.setCell (by simp; omega) _).setCell (by simp; omega) _).setCell (by simp; omega) _
end Go.Proofs.YtikfgddgfddbaaaGreatDoor

/- Plain: the sum of two rational numbers by sign, numerator, denominator. -/
namespace Go.Proofs.YtikfgddgfddbaaaGreatDoor

theorem sgn_mulN (m : Bool) (n d : Nat) : sgn m (n * d) = sgn m n * (d : Int) := by cases m <;> simp [sgn, Int.neg_mul]

theorem q_add (p q : Rat) : p + q = mkRat (sgn (decide (p.num < 0)) (p.num.natAbs * q.den) + sgn (decide (q.num < 0)) (q.num.natAbs * p.den)) (p.den * q.den) := by
  rw [sgn_mulN, sgn_mulN, sgn_of, sgn_of, Rat.add_def', Int.mul_comm q.num]
  try rw [Int.mul_comm q.num]

theorem sgn_same (m : Bool) (x y : Nat) : sgn m x + sgn m y = sgn m (x + y) := by cases m <;> simp [sgn] <;> omega
theorem sgn_less {m1 m2 : Bool} (h : m1 ≠ m2) {x y : Nat} (hl : x < y) : sgn m1 x + sgn m2 y = sgn m2 (y - x) := by
  cases m1 <;> cases m2 <;> simp [sgn] at * <;> omega
theorem sgn_more {m1 m2 : Bool} (h : m1 ≠ m2) {x y : Nat} (hl : y ≤ x) : sgn m1 x + sgn m2 y = sgn m1 (x - y) := by
  cases m1 <;> cases m2 <;> simp [sgn] at * <;> omega
end Go.Proofs.YtikfgddgfddbaaaGreatDoor

/- Walks: the program's fractions: Add, Sub, Div. -/
namespace Go.Proofs.YtikfgddgfddbaaaGreatDoor
open Go.RowKit
set_option linter.unusedVariables false
set_option linter.unusedSimpArgs false

theorem q_add_same {p q : Rat} {m : Bool} (h1 : decide (p.num < 0) = m) (h2 : decide (q.num < 0) = m) : qmk m (p.num.natAbs * q.den + q.num.natAbs * p.den) (p.den * q.den) = p + q := by
  rw [q_add, h1, h2, sgn_same]; rfl
theorem q_add_less {p q : Rat} {m1 m2 : Bool} (h1 : decide (p.num < 0) = m1) (h2 : decide (q.num < 0) = m2) (h : m1 ≠ m2) (hl : p.num.natAbs * q.den < q.num.natAbs * p.den) : qmk m2 (q.num.natAbs * p.den - p.num.natAbs * q.den) (p.den * q.den) = p + q := by
  rw [q_add, h1, h2, sgn_less h hl]; rfl
theorem q_add_more {p q : Rat} {m1 m2 : Bool} (h1 : decide (p.num < 0) = m1) (h2 : decide (q.num < 0) = m2) (h : m1 ≠ m2) (hl : q.num.natAbs * p.den ≤ p.num.natAbs * q.den) : qmk m1 (p.num.natAbs * q.den - q.num.natAbs * p.den) (p.den * q.den) = p + q := by
  rw [q_add, h1, h2, sgn_more h hl]; rfl

set_option maxRecDepth 100000 in
set_option maxHeartbeats 4000000 in
theorem f_Add (w : World) (v u : Value) (p q : Rat) (hp : IsQ .u64 w v p) (hq : IsQ .u64 w u q)
    (h1 : (limbs p.num.natAbs).length ≤ 100000) (h2 : (limbs p.den).length ≤ 100000) (h3 : (limbs q.num.natAbs).length ≤ 100000) (h4 : (limbs q.den).length ≤ 100000) :
    Calls Tryz.prog 120 #[v, u] w fun e w' => RetQ .u64 (p + q) e w' ∧ Below w.heap.size w w' := by
  obtain ⟨m1, hm1⟩ : ∃ m, decide (p.num < 0) = m := ⟨_, rfl⟩
  obtain ⟨m2, hm2⟩ : ∃ m, decide (q.num < 0) = m := ⟨_, rfl⟩
  have s1 := fun (e : m1 = m2) => q_add_same (m := m1) hm1 (hm2.trans e.symm)
  have s2 := q_add_less hm1 hm2
  have s3 := q_add_more hm1 hm2
  obtain ⟨Q, hQ⟩ : ∃ Q, p + q = Q := ⟨_, rfl⟩
  rw [hQ] at s1 s2 s3 ⊢
  have hD := hid (Nat.mul_pos p.den_pos q.den_pos)
  obtain ⟨N1, D1, rfl, hn1, hd1⟩ := hp.ex
  obtain ⟨N2, D2, rfl, hn2, hd2⟩ := hq.ex
  rw [hm1, hm2]
  clear hp hq hQ hm1 hm2
  generalize p.num.natAbs = n1 at *
  generalize q.num.natAbs = n2 at *
  generalize p.den = d1 at *
  generalize q.den = d2 at *
  have S1 := hid s1; have S2 := hid s2; have S3 := hid s3
  have HN1 := hid hn1; have HD1 := hid hd1; have HN2 := hid hn2; have HD2 := hid hd2
  have lx := len_mul h1 h4
  have ly := len_mul h3 h2
  have ld := len_mul h2 h4
  have LX := hid (Nat.le_trans lx (show 100000 + 100000 ≤ 200000 by omega)); have LY := hid (Nat.le_trans ly (show 100000 + 100000 ≤ 200000 by omega)); have LD := hid (Nat.le_trans ld (show 100000 + 100000 ≤ 1000000 by omega))
  have LXY := hid (Nat.le_trans (len_add lx ly) (show 100000 + 100000 + (100000 + 100000) + 1 ≤ 1000000 by omega))
  have H1 := hid (Nat.le_trans h1 (show 100000 ≤ 1000000 by omega))
  have H2 := hid (Nat.le_trans h2 (show 100000 ≤ 1000000 by omega))
  have H3 := hid (Nat.le_trans h3 (show 100000 ≤ 1000000 by omega))
  have H4 := hid (Nat.le_trans h4 (show 100000 ≤ 1000000 by omega))
  clear h1 h2 h3 h4 lx ly ld s1 s2 s3
  obtain ⟨a1, c1, rfl, _⟩ := hn1.openI
  obtain ⟨a2, c2, rfl, _⟩ := hd1.openI
  obtain ⟨a3, c3, rfl, _⟩ := hn2.openI
  obtain ⟨a4, c4, rfl, _⟩ := hd2.openI
  clear hn1 hd1 hn2 hd2
  go_enter Tryz.func120, Tryz.ntmps120
  go_wp2_with fail
  obtain ⟨W, hW⟩ : ∃ W, ((w.alloc (.cells #[.bool m1, .slice a1 (limbs n1).length c1, .slice a2 (limbs d1).length c2] 110)).alloc (.cells #[.bool m2, .slice a3 (limbs n2).length c3, .slice a4 (limbs d2).length c4] 110)).alloc (.cells #[.bool false, .slice none 0 0, .slice none 0 0] 110) = W := ⟨_, rfl⟩
  have T := hid (Three.mk' hW)
  rw [hW]
  clear hW
  have hS := T.out.cells (Below.refl _ _).drew
  have B0 := hid (T.out.below.drew)
  have C0 := hid ((Below.refl W.heap.size W).drew)
  refine held_plain [0, 1, 2, 3, 5, 6, 7, 8] 4 (twoF w.heap.size m1 m2 (.slice a1 (limbs n1).length c1) (.slice a2 (limbs d1).length c2) (.slice a3 (limbs n2).length c3) (.slice a4 (limbs d2).length c4)) (by kernel_rfl) (by kernel_rfl) (by kernel_rfl) (by kernel_rfl) hS ?_
  iterate 8
    refine ⟨_, rfl, ?_⟩
    apply Exists.intro
    refine ⟨.inl ⟨by rfl, ?_⟩, ?_⟩
    · (intro W' hW'; obtain ⟨q1, q2, q3, q4, q5, q6⟩ := hW'; go_simp; try (with_reducible rfl))
    (dsimp only [Act.put]; try simp only [List.setIfInBounds_toArray, List.set_cons_zero, List.set_cons_succ])
  clear hS
  refine held_one (i := 4) (by kernel_rfl) (by rfl) (by rfl) ?_
  go_wp2_with fail
  refine (l_Mul _ _ _ n1 d2 (HN1.out.call B0.out) (HD2.out.call B0.out) H1.out H4.out).mono ?_; rintro e w1 ⟨⟨v1, rfl, hv1⟩, hb1⟩
  have B1 := hid (B0.out.trans (hb1.mono B0.out.size)); have C1 := hid (bnext C0.out hb1); have V1 := hid hv1
  clear hb1 hv1
  go_wp2_with fail
  refine ⟨T.out.cells C1.out, ?_⟩
  refine held_one (i := 9) (by kernel_rfl) (by rfl) (by rfl) ?_
  go_wp2_with fail
  refine (l_Mul _ _ _ n2 d1 (HN2.out.call B1.out) (HD1.out.call B1.out) H3.out H2.out).mono ?_; rintro e w2 ⟨⟨v2, rfl, hv2⟩, hb2⟩
  have B2 := hid (B1.out.trans (hb2.mono B1.out.size)); have C2 := hid (bnext C1.out hb2); have V2 := hid hv2; have W1 := hid (V1.out.call hb2)
  clear hb2 hv2
  go_wp2_with fail
  refine ⟨T.out.cells C2.out, ?_⟩
  refine held_more (is := [10, 11]) (g := 0) (by kernel_rfl) rfl (T.out.cells C2.out) (by kernel_rfl) ?_
  iterate 2
    refine ⟨_, rfl, ?_⟩
    apply Exists.intro
    refine ⟨.inl ⟨by rfl, ?_⟩, ?_⟩
    · (intro W' hW'; clear hW'; go_simp; try (with_reducible rfl))
    (dsimp only [Act.put]; try simp only [List.setIfInBounds_toArray, List.set_cons_zero, List.set_cons_succ])
  refine wpAnyH_done (by kernel_rfl) ?_ _
  simp only [Only]
  obtain ⟨k0, k1, k2, k3, k4, k5⟩ := T.out.cells C2.out
  go_wp2_with fail
  refine (l_Mul _ _ _ d1 d2 (HD1.out.call B2.out) (HD2.out.call B2.out) H2.out H4.out).mono ?_; rintro e w3 ⟨⟨v3, rfl, hv3⟩, hb3⟩
  have B3 := hid (B2.out.trans (hb3.mono B2.out.size)); have C3 := hid (bnext C2.out hb3); have V3 := hid hv3; have X1 := hid (W1.out.call hb3); have X2 := hid (V2.out.call hb3)
  clear hb3 hv3 k0 k1 k2 k3 k4 k5
  go_wp2_with fail
  refine (l_Cmp _ _ _ (n1 * d2) (n2 * d1) X1.out X2.out (Nat.le_trans LX.out (by omega))).mono ?_; rintro e w4 ⟨rfl, hb4⟩
  have B4 := hid (B3.out.trans (hb4.mono B3.out.size)); have C4 := hid (bnext C3.out hb4); have V4 := hid (V3.out.call hb4); have Y1 := hid (X1.out.call hb4); have Y2 := hid (X2.out.call hb4)
  clear hb4
  obtain ⟨k0, k1, k2, k3, k4, k5⟩ := T.out.cells C4.out
  clear B0 B1 B2 B3 C0 C1 C2 C3 V1 V2 V3 W1 X1 X2
  obtain ⟨X, hX⟩ : ∃ X, n1 * d2 = X := ⟨_, rfl⟩
  obtain ⟨Y, hY⟩ : ∃ X, n2 * d1 = X := ⟨_, rfl⟩
  obtain ⟨E, hE⟩ : ∃ X, d1 * d2 = X := ⟨_, rfl⟩
  rw [hX] at S1 S2 S3 LX LXY Y1 ⊢
  rw [hY] at S1 S2 S3 LY LXY Y2 ⊢
  rw [hE] at S1 S2 S3 LD V4 hD
  clear hX hY hE
  by_cases em : m1 = m2
  · have SA := hid (S1.out em)
    subst em
    have q0 : (m1 == m1) = true := beq_self_eq_true m1
    go_wp2_with fail
    have hS := T.out.cells C4.out.drew
    have B0 := hid B4.out.drew
    have C0 := hid C4.out.drew
    refine held_plain [0, 1, 2, 3, 5] 3 (twoF w.heap.size m1 m1 (.slice a1 (limbs n1).length c1) (.slice a2 (limbs d1).length c2) (.slice a3 (limbs n2).length c3) (.slice a4 (limbs d2).length c4)) (by kernel_rfl) (by kernel_rfl) (by kernel_rfl) (by kernel_rfl) hS ?_
    iterate 5
      refine ⟨_, rfl, ?_⟩
      apply Exists.intro
      refine ⟨.inl ⟨by rfl, ?_⟩, ?_⟩
      · (intro W' hW'; obtain ⟨q1, q2, q3, q4, q5, q6⟩ := hW'; go_simp; try (with_reducible rfl))
      (dsimp only [Act.put]; try simp only [List.setIfInBounds_toArray, List.set_cons_zero, List.set_cons_succ])
    clear hS
    refine held_one (i := 4) (by kernel_rfl) (by rfl) (by rfl) ?_
    go_wp2_with fail
    refine (l_Add _ _ _ X Y (Y1.out.call (Below.refl _ _).drew) (Y2.out.call (Below.refl _ _).drew) (Nat.le_trans LX.out (by omega)) (Nat.le_trans LY.out (by omega))).mono ?_; rintro e w5 ⟨⟨v5, rfl, hv5⟩, hb5⟩
    have B5 := hid (B0.out.trans (hb5.mono B0.out.size)); have C5 := hid (C0.out.trans (hb5.mono C0.out.size)); have V5 := hid hv5; have E5 := hid (V4.out.call (show Below w4.heap.size w4 w5 from (Below.refl _ _).drew.trans hb5))
    clear hb5 hv5
    go_wp2_with fail
    refine ⟨T.out.cells C5.out, ?_⟩
    refine held_one (i := 6) (by kernel_rfl) (by rfl) (by rfl) ?_
    go_wp2_with fail
    refine (f_Make _ _ _ _ (X + Y) E V5.out E5.out hD.out (LXY.out) LD.out).mono ?_; rintro e w6 ⟨⟨v3, rfl, hv3⟩, hb6⟩
    rw [SA.out] at hv3
    have B6 := hid (B5.out.trans (hb6.mono B5.out.size)); have C6 := hid (C5.out.trans (hb6.mono C5.out.size))
    clear hb6
    obtain ⟨N3, D3, rfl, hN3, hD3⟩ := hv3.ex
    obtain ⟨a5, c5, rfl, _⟩ := hN3.openI
    obtain ⟨a6, c6, rfl, _⟩ := hD3.openI
    obtain ⟨k5, hk5⟩ : ∃ k, (limbs Q.num.natAbs).length = k := ⟨_, rfl⟩
    obtain ⟨k6, hk6⟩ : ∃ k, (limbs Q.den).length = k := ⟨_, rfl⟩
    obtain ⟨mq, hmq⟩ : ∃ m, decide (Q.num < 0) = m := ⟨_, rfl⟩
    rw [hk5] at hN3 ⊢
    rw [hk6] at hD3 ⊢
    rw [hmq]
    have HN3 := hid hN3; have HD3 := hid hD3; have HMQ := hid hmq
    have Z := hid (T.out.b2.call C6.out)
    have t0 := Z.out.cell 0
    have t1 := Z.out.cell 1
    have t2 := Z.out.cell 2
    have t3 := Z.out.free 0
    have t4 := Z.out.free 1
    have t5 := Z.out.free 2
    simp at t0 t1 t2
    clear hv3 hN3 hD3 hk5 hk6 hmq
    go_wp2_with fail
    refine ⟨T.out.cells C6.out, ?_⟩
    refine held_one (i := 7) (by kernel_rfl) (by rfl) (by rfl) ?_
    go_wp2_with fail
    refine ⟨T.out.stored C6.out _ _ _, ?_⟩
    refine wpAnyH_done (by kernel_rfl) ?_ _
    simp only [Only]
    obtain ⟨s1, s2⟩ := set3 Z.out mq a5 a6 k5 c5 k6 c6
    have f0 := s2.cell 0
    have f1 := s2.cell 1
    have f2 := s2.cell 2
    simp at f0 f1 f2
    clear t0 t1 t2 t3 t4 t5
    go_wp2_with fail
    refine bodyPost_ret (v := .agg #[.bool mq, .slice a5 k5 c5, .slice a6 k6 c6]) (by simp [results, Tryz.results120, go_sem, f0, f1, f2]) rfl ⟨⟨_, rfl, ⟨.slice a5 k5 c5, .slice a6 k6 c6, by rw [HMQ.out], s1 _ _ _ HN3.out, s1 _ _ _ HD3.out⟩⟩, ?_⟩
    exact ((B6.out.setCell (by simp; omega) _).setCell (by simp; omega) _).setCell (by simp; omega) _
  · have q0 : (m1 == m2) = false := by simpa using em
    have HE := hid em
    clear em
    by_cases hc : X < Y
    · have HC := hid hc
      rw [ordN_lt hc]
      clear hc
      go_wp2_with fail
      have hS := T.out.cells C4.out.drew
      have B0 := hid B4.out.drew
      have C0 := hid C4.out.drew
      refine held_plain [0, 1, 2, 3, 5] 3 (twoF w.heap.size m1 m2 (.slice a1 (limbs n1).length c1) (.slice a2 (limbs d1).length c2) (.slice a3 (limbs n2).length c3) (.slice a4 (limbs d2).length c4)) (by kernel_rfl) (by kernel_rfl) (by kernel_rfl) (by kernel_rfl) hS ?_
      iterate 5
        refine ⟨_, rfl, ?_⟩
        apply Exists.intro
        refine ⟨.inl ⟨by rfl, ?_⟩, ?_⟩
        · (intro W' hW'; obtain ⟨q1, q2, q3, q4, q5, q6⟩ := hW'; go_simp; try (with_reducible rfl))
        (dsimp only [Act.put]; try simp only [List.setIfInBounds_toArray, List.set_cons_zero, List.set_cons_succ])
      clear hS
      refine held_one (i := 4) (by kernel_rfl) (by rfl) (by rfl) ?_
      go_wp2_with fail
      refine (l_Sub _ _ _ Y X (Y2.out.call (Below.refl _ _).drew) (Y1.out.call (Below.refl _ _).drew) (Nat.le_of_lt HC.out) (Nat.le_trans LY.out (by omega))).mono ?_; rintro e w5 ⟨⟨v5, rfl, hv5⟩, hb5⟩
      have B5 := hid (B0.out.trans (hb5.mono B0.out.size)); have C5 := hid (C0.out.trans (hb5.mono C0.out.size)); have V5 := hid hv5; have E5 := hid (V4.out.call (show Below w4.heap.size w4 w5 from (Below.refl _ _).drew.trans hb5))
      clear hb5 hv5
      go_wp2_with fail
      refine ⟨T.out.cells C5.out, ?_⟩
      refine held_one (i := 6) (by kernel_rfl) (by rfl) (by rfl) ?_
      go_wp2_with fail
      refine (f_Make _ _ _ _ (Y - X) E V5.out E5.out hD.out (Nat.le_trans (limbs_length_mono (Nat.sub_le Y X)) (Nat.le_trans LY.out (by omega))) LD.out).mono ?_; rintro e w6 ⟨⟨v3, rfl, hv3⟩, hb6⟩
      rw [S2.out HE.out HC.out] at hv3
      have B6 := hid (B5.out.trans (hb6.mono B5.out.size)); have C6 := hid (C5.out.trans (hb6.mono C5.out.size))
      clear hb6
      obtain ⟨N3, D3, rfl, hN3, hD3⟩ := hv3.ex
      obtain ⟨a5, c5, rfl, _⟩ := hN3.openI
      obtain ⟨a6, c6, rfl, _⟩ := hD3.openI
      obtain ⟨k5, hk5⟩ : ∃ k, (limbs Q.num.natAbs).length = k := ⟨_, rfl⟩
      obtain ⟨k6, hk6⟩ : ∃ k, (limbs Q.den).length = k := ⟨_, rfl⟩
      obtain ⟨mq, hmq⟩ : ∃ m, decide (Q.num < 0) = m := ⟨_, rfl⟩
      rw [hk5] at hN3 ⊢
      rw [hk6] at hD3 ⊢
      rw [hmq]
      have HN3 := hid hN3; have HD3 := hid hD3; have HMQ := hid hmq
      have Z := hid (T.out.b2.call C6.out)
      have t0 := Z.out.cell 0
      have t1 := Z.out.cell 1
      have t2 := Z.out.cell 2
      have t3 := Z.out.free 0
      have t4 := Z.out.free 1
      have t5 := Z.out.free 2
      simp at t0 t1 t2
      clear hv3 hN3 hD3 hk5 hk6 hmq
      go_wp2_with fail
      refine ⟨T.out.cells C6.out, ?_⟩
      refine held_one (i := 7) (by kernel_rfl) (by rfl) (by rfl) ?_
      go_wp2_with fail
      refine ⟨T.out.stored C6.out _ _ _, ?_⟩
      refine wpAnyH_done (by kernel_rfl) ?_ _
      simp only [Only]
      obtain ⟨s1, s2⟩ := set3 Z.out mq a5 a6 k5 c5 k6 c6
      have f0 := s2.cell 0
      have f1 := s2.cell 1
      have f2 := s2.cell 2
      simp at f0 f1 f2
      clear t0 t1 t2 t3 t4 t5
      go_wp2_with fail
      refine bodyPost_ret (v := .agg #[.bool mq, .slice a5 k5 c5, .slice a6 k6 c6]) (by simp [results, Tryz.results120, go_sem, f0, f1, f2]) rfl ⟨⟨_, rfl, ⟨.slice a5 k5 c5, .slice a6 k6 c6, by rw [HMQ.out], s1 _ _ _ HN3.out, s1 _ _ _ HD3.out⟩⟩, ?_⟩
      exact ((B6.out.setCell (by simp; omega) _).setCell (by simp; omega) _).setCell (by simp; omega) _
    · have HC := hid (show Y ≤ X by omega)
      have q1 : decide (ordN X Y < 0) = false := by
        rcases Nat.lt_or_ge Y X with h | h
        · rw [ordN_gt h]; rfl
        · rw [show X = Y by omega, ordN_eq]; rfl
      clear hc
      go_wp2_with fail
      have hS := T.out.cells C4.out.drew
      have B0 := hid B4.out.drew
      have C0 := hid C4.out.drew
      refine held_plain [0, 1, 2, 3, 5] 3 (twoF w.heap.size m1 m2 (.slice a1 (limbs n1).length c1) (.slice a2 (limbs d1).length c2) (.slice a3 (limbs n2).length c3) (.slice a4 (limbs d2).length c4)) (by kernel_rfl) (by kernel_rfl) (by kernel_rfl) (by kernel_rfl) hS ?_
      iterate 5
        refine ⟨_, rfl, ?_⟩
        apply Exists.intro
        refine ⟨.inl ⟨by rfl, ?_⟩, ?_⟩
        · (intro W' hW'; obtain ⟨q1, q2, q3, q4, q5, q6⟩ := hW'; go_simp; try (with_reducible rfl))
        (dsimp only [Act.put]; try simp only [List.setIfInBounds_toArray, List.set_cons_zero, List.set_cons_succ])
      clear hS
      refine held_one (i := 4) (by kernel_rfl) (by rfl) (by rfl) ?_
      go_wp2_with fail
      refine (l_Sub _ _ _ X Y (Y1.out.call (Below.refl _ _).drew) (Y2.out.call (Below.refl _ _).drew) HC.out (Nat.le_trans LX.out (by omega))).mono ?_; rintro e w5 ⟨⟨v5, rfl, hv5⟩, hb5⟩
      have B5 := hid (B0.out.trans (hb5.mono B0.out.size)); have C5 := hid (C0.out.trans (hb5.mono C0.out.size)); have V5 := hid hv5; have E5 := hid (V4.out.call (show Below w4.heap.size w4 w5 from (Below.refl _ _).drew.trans hb5))
      clear hb5 hv5
      go_wp2_with fail
      refine ⟨T.out.cells C5.out, ?_⟩
      refine held_one (i := 6) (by kernel_rfl) (by rfl) (by rfl) ?_
      go_wp2_with fail
      refine (f_Make _ _ _ _ (X - Y) E V5.out E5.out hD.out (Nat.le_trans (limbs_length_mono (Nat.sub_le X Y)) (Nat.le_trans LX.out (by omega))) LD.out).mono ?_; rintro e w6 ⟨⟨v3, rfl, hv3⟩, hb6⟩
      rw [S3.out HE.out HC.out] at hv3
      have B6 := hid (B5.out.trans (hb6.mono B5.out.size)); have C6 := hid (C5.out.trans (hb6.mono C5.out.size))
      clear hb6
      obtain ⟨N3, D3, rfl, hN3, hD3⟩ := hv3.ex
      obtain ⟨a5, c5, rfl, _⟩ := hN3.openI
      obtain ⟨a6, c6, rfl, _⟩ := hD3.openI
      obtain ⟨k5, hk5⟩ : ∃ k, (limbs Q.num.natAbs).length = k := ⟨_, rfl⟩
      obtain ⟨k6, hk6⟩ : ∃ k, (limbs Q.den).length = k := ⟨_, rfl⟩
      obtain ⟨mq, hmq⟩ : ∃ m, decide (Q.num < 0) = m := ⟨_, rfl⟩
      rw [hk5] at hN3 ⊢
      rw [hk6] at hD3 ⊢
      rw [hmq]
      have HN3 := hid hN3; have HD3 := hid hD3; have HMQ := hid hmq
      have Z := hid (T.out.b2.call C6.out)
      have t0 := Z.out.cell 0
      have t1 := Z.out.cell 1
      have t2 := Z.out.cell 2
      have t3 := Z.out.free 0
      have t4 := Z.out.free 1
      have t5 := Z.out.free 2
      simp at t0 t1 t2
      clear hv3 hN3 hD3 hk5 hk6 hmq
      go_wp2_with fail
      refine ⟨T.out.cells C6.out, ?_⟩
      refine held_one (i := 7) (by kernel_rfl) (by rfl) (by rfl) ?_
      go_wp2_with fail
      refine ⟨T.out.stored C6.out _ _ _, ?_⟩
      refine wpAnyH_done (by kernel_rfl) ?_ _
      simp only [Only]
      obtain ⟨s1, s2⟩ := set3 Z.out mq a5 a6 k5 c5 k6 c6
      have f0 := s2.cell 0
      have f1 := s2.cell 1
      have f2 := s2.cell 2
      simp at f0 f1 f2
      clear t0 t1 t2 t3 t4 t5
      go_wp2_with fail
      refine bodyPost_ret (v := .agg #[.bool mq, .slice a5 k5 c5, .slice a6 k6 c6]) (by simp [results, Tryz.results120, go_sem, f0, f1, f2]) rfl ⟨⟨_, rfl, ⟨.slice a5 k5 c5, .slice a6 k6 c6, by rw [HMQ.out], s1 _ _ _ HN3.out, s1 _ _ _ HD3.out⟩⟩, ?_⟩
      exact ((B6.out.setCell (by simp; omega) _).setCell (by simp; omega) _).setCell (by simp; omega) _

set_option maxRecDepth 100000 in
set_option maxHeartbeats 2000000 in
theorem f_Sub (w : World) (v u : Value) (p q : Rat) (hp : IsQ .u64 w v p) (hq : IsQ .u64 w u q)
    (h1 : (limbs p.num.natAbs).length ≤ 100000) (h2 : (limbs p.den).length ≤ 100000) (h3 : (limbs q.num.natAbs).length ≤ 100000) (h4 : (limbs q.den).length ≤ 100000) :
    Calls Tryz.prog 117 #[v, u] w fun e w' => RetQ .u64 (p - q) e w' ∧ Below w.heap.size w w' := by
  have e1 : p + -q = p - q := (Rat.sub_eq_add_neg p q).symm
  have F1 := fun V v h => hid (f_Neg V v q h)
  have F2 := fun V v u hv hu => hid (f_Add V v u p (-q) hv hu h1 h2 (by rw [Rat.neg_num, Int.natAbs_neg]; exact h3) (by rw [Rat.neg_den]; exact h4))
  rw [e1] at F2
  obtain ⟨Q, hQ⟩ : ∃ Q, p - q = Q := ⟨_, rfl⟩
  rw [hQ] at F2 ⊢
  have HP := hid hp; have HQ' := hid hq
  obtain ⟨N1, D1, rfl, hn1, hd1⟩ := hp.ex
  obtain ⟨N2, D2, rfl, hn2, hd2⟩ := hq.ex
  obtain ⟨a1, c1, rfl, _⟩ := hn1.openI
  obtain ⟨a2, c2, rfl, _⟩ := hd1.openI
  obtain ⟨a3, c3, rfl, _⟩ := hn2.openI
  obtain ⟨a4, c4, rfl, _⟩ := hd2.openI
  clear hp hq hQ e1 hn1 hd1 hn2 hd2 h1 h2 h3 h4
  obtain ⟨m1, hm1⟩ : ∃ m, decide (p.num < 0) = m := ⟨_, rfl⟩
  obtain ⟨m2, hm2⟩ : ∃ m, decide (q.num < 0) = m := ⟨_, rfl⟩
  obtain ⟨l1, hl1⟩ : ∃ m, (limbs p.num.natAbs).length = m := ⟨_, rfl⟩
  obtain ⟨l2, hl2⟩ : ∃ m, (limbs p.den).length = m := ⟨_, rfl⟩
  obtain ⟨l3, hl3⟩ : ∃ m, (limbs q.num.natAbs).length = m := ⟨_, rfl⟩
  obtain ⟨l4, hl4⟩ : ∃ m, (limbs q.den).length = m := ⟨_, rfl⟩
  rw [hm1, hl1, hl2] at HP
  rw [hm2, hl3, hl4] at HQ'
  rw [hm1, hm2, hl1, hl2, hl3, hl4]
  clear hm1 hm2 hl1 hl2 hl3 hl4
  go_enter Tryz.func117, Tryz.ntmps117
  go_wp2_with fail
  obtain ⟨W, hW⟩ : ∃ W, ((w.alloc (.cells #[.bool m1, .slice a1 l1 c1, .slice a2 l2 c2] 110)).alloc (.cells #[.bool m2, .slice a3 l3 c3, .slice a4 l4 c4] 110)).alloc (.cells #[.bool false, .slice none 0 0, .slice none 0 0] 110) = W := ⟨_, rfl⟩
  have T := hid (Three.mk' hW)
  rw [hW]
  clear hW
  have hS := T.out.cells (Below.refl _ _).drew
  have B0 := hid (T.out.below.drew)
  have C0 := hid ((Below.refl W.heap.size W).drew)
  refine held_plain [0, 1] 3 (twoF w.heap.size m1 m2 (.slice a1 l1 c1) (.slice a2 l2 c2) (.slice a3 l3 c3) (.slice a4 l4 c4)) (by kernel_rfl) (by kernel_rfl) (by kernel_rfl) (by kernel_rfl) hS ?_
  iterate 2
    refine ⟨_, rfl, ?_⟩
    apply Exists.intro
    refine ⟨.inl ⟨by rfl, ?_⟩, ?_⟩
    · (intro W' hW'; obtain ⟨q1, q2, q3, q4, q5, q6⟩ := hW'; go_simp; try (with_reducible rfl))
    (dsimp only [Act.put]; try simp only [List.setIfInBounds_toArray, List.set_cons_zero, List.set_cons_succ])
  clear hS
  refine held_one (i := 2) (by kernel_rfl) (by rfl) (by rfl) ?_
  go_wp2_with fail
  refine (F1 _ _ (HQ'.out.call B0.out)).out.mono ?_; rintro e w1 ⟨⟨v1, rfl, hv1⟩, hb1⟩
  have B1 := hid (B0.out.trans (hb1.mono B0.out.size)); have C1 := hid (bnext C0.out hb1); have V1 := hid hv1
  clear hb1 hv1
  go_wp2_with fail
  refine ⟨T.out.cells C1.out, ?_⟩
  refine held_one (i := 3) (by kernel_rfl) (by rfl) (by rfl) ?_
  go_wp2_with fail
  refine (F2 _ _ _ (HP.out.call B1.out) V1.out).out.mono ?_; rintro e w3 ⟨⟨v3, rfl, hv3⟩, hb3⟩
  have B3 := hid (B1.out.trans (hb3.mono B1.out.size)); have C3 := hid (bnext C1.out hb3)
  clear hb3
  obtain ⟨N3, D3, rfl, hN3, hD3⟩ := hv3.ex
  obtain ⟨a5, c5, rfl, _⟩ := hN3.openI
  obtain ⟨a6, c6, rfl, _⟩ := hD3.openI
  obtain ⟨k5, hk5⟩ : ∃ k, (limbs Q.num.natAbs).length = k := ⟨_, rfl⟩
  obtain ⟨k6, hk6⟩ : ∃ k, (limbs Q.den).length = k := ⟨_, rfl⟩
  obtain ⟨mq, hmq⟩ : ∃ m, decide (Q.num < 0) = m := ⟨_, rfl⟩
  rw [hk5] at hN3 ⊢
  rw [hk6] at hD3 ⊢
  rw [hmq]
  have HN3 := hid hN3; have HD3 := hid hD3; have HMQ := hid hmq
  have Z := hid (T.out.b2.call C3.out)
  have t0 := Z.out.cell 0
  have t1 := Z.out.cell 1
  have t2 := Z.out.cell 2
  have t3 := Z.out.free 0
  have t4 := Z.out.free 1
  have t5 := Z.out.free 2
  simp at t0 t1 t2
  clear hv3 hN3 hD3 hk5 hk6 hmq
  go_wp2_with fail
  refine ⟨T.out.cells C3.out, ?_⟩
  refine held_one (i := 4) (by kernel_rfl) (by rfl) (by rfl) ?_
  go_wp2_with fail
  refine ⟨T.out.stored C3.out _ _ _, ?_⟩
  refine wpAnyH_done (by kernel_rfl) ?_ _
  simp only [Only]
  obtain ⟨s1, s2⟩ := set3 Z.out mq a5 a6 k5 c5 k6 c6
  have f0 := s2.cell 0
  have f1 := s2.cell 1
  have f2 := s2.cell 2
  simp at f0 f1 f2
  clear t0 t1 t2 t3 t4 t5
  go_wp2_with fail
  refine bodyPost_ret (v := .agg #[.bool mq, .slice a5 k5 c5, .slice a6 k6 c6]) (by simp [results, Tryz.results117, go_sem, f0, f1, f2]) rfl ⟨⟨_, rfl, ⟨.slice a5 k5 c5, .slice a6 k6 c6, by rw [HMQ.out], s1 _ _ _ HN3.out, s1 _ _ _ HD3.out⟩⟩, ?_⟩
  exact ((B3.out.setCell (by simp; omega) _).setCell (by simp; omega) _).setCell (by simp; omega) _

set_option maxRecDepth 100000 in
set_option maxHeartbeats 2000000 in
theorem f_Div (w : World) (v u : Value) (p q : Rat) (hp : IsQ .u64 w v p) (hq : IsQ .u64 w u q) (h0 : q ≠ 0)
    (h1 : (limbs p.num.natAbs).length ≤ 100000) (h2 : (limbs p.den).length ≤ 100000) (h3 : (limbs q.num.natAbs).length ≤ 100000) (h4 : (limbs q.den).length ≤ 100000) :
    Calls Tryz.prog 166 #[v, u] w fun e w' => RetQ .u64 (p / q) e w' ∧ Below w.heap.size w w' := by
  have e1 : p * q⁻¹ = p / q := (Rat.div_def p q).symm
  have F1 := fun V v h => hid (f_Inv V v q h h0)
  have F2 := fun V v u hv hu => hid (f_Mul V v u p q⁻¹ hv hu h1 h2 (by rw [(inv_num h0).2.1]; exact h4) (by rw [(inv_num h0).2.2]; exact h3))
  rw [e1] at F2
  obtain ⟨Q, hQ⟩ : ∃ Q, p / q = Q := ⟨_, rfl⟩
  rw [hQ] at F2 ⊢
  have HP := hid hp; have HQ' := hid hq
  obtain ⟨N1, D1, rfl, hn1, hd1⟩ := hp.ex
  obtain ⟨N2, D2, rfl, hn2, hd2⟩ := hq.ex
  obtain ⟨a1, c1, rfl, _⟩ := hn1.openI
  obtain ⟨a2, c2, rfl, _⟩ := hd1.openI
  obtain ⟨a3, c3, rfl, _⟩ := hn2.openI
  obtain ⟨a4, c4, rfl, _⟩ := hd2.openI
  clear hp hq hQ e1 hn1 hd1 hn2 hd2 h0 h1 h2 h3 h4
  obtain ⟨m1, hm1⟩ : ∃ m, decide (p.num < 0) = m := ⟨_, rfl⟩
  obtain ⟨m2, hm2⟩ : ∃ m, decide (q.num < 0) = m := ⟨_, rfl⟩
  obtain ⟨l1, hl1⟩ : ∃ m, (limbs p.num.natAbs).length = m := ⟨_, rfl⟩
  obtain ⟨l2, hl2⟩ : ∃ m, (limbs p.den).length = m := ⟨_, rfl⟩
  obtain ⟨l3, hl3⟩ : ∃ m, (limbs q.num.natAbs).length = m := ⟨_, rfl⟩
  obtain ⟨l4, hl4⟩ : ∃ m, (limbs q.den).length = m := ⟨_, rfl⟩
  rw [hm1, hl1, hl2] at HP
  rw [hm2, hl3, hl4] at HQ'
  rw [hm1, hm2, hl1, hl2, hl3, hl4]
  clear hm1 hm2 hl1 hl2 hl3 hl4
  go_enter Tryz.func166, Tryz.ntmps166
  go_wp2_with fail
  obtain ⟨W, hW⟩ : ∃ W, ((w.alloc (.cells #[.bool m1, .slice a1 l1 c1, .slice a2 l2 c2] 110)).alloc (.cells #[.bool m2, .slice a3 l3 c3, .slice a4 l4 c4] 110)).alloc (.cells #[.bool false, .slice none 0 0, .slice none 0 0] 110) = W := ⟨_, rfl⟩
  have T := hid (Three.mk' hW)
  rw [hW]
  clear hW
  have hS := T.out.cells (Below.refl _ _).drew
  have B0 := hid (T.out.below.drew)
  have C0 := hid ((Below.refl W.heap.size W).drew)
  refine held_plain [0, 1] 3 (twoF w.heap.size m1 m2 (.slice a1 l1 c1) (.slice a2 l2 c2) (.slice a3 l3 c3) (.slice a4 l4 c4)) (by kernel_rfl) (by kernel_rfl) (by kernel_rfl) (by kernel_rfl) hS ?_
  iterate 2
    refine ⟨_, rfl, ?_⟩
    apply Exists.intro
    refine ⟨.inl ⟨by rfl, ?_⟩, ?_⟩
    · (intro W' hW'; obtain ⟨q1, q2, q3, q4, q5, q6⟩ := hW'; go_simp; try (with_reducible rfl))
    (dsimp only [Act.put]; try simp only [List.setIfInBounds_toArray, List.set_cons_zero, List.set_cons_succ])
  clear hS
  refine held_one (i := 2) (by kernel_rfl) (by rfl) (by rfl) ?_
  go_wp2_with fail
  refine (F1 _ _ (HQ'.out.call B0.out)).out.mono ?_; rintro e w1 ⟨⟨v1, rfl, hv1⟩, hb1⟩
  have B1 := hid (B0.out.trans (hb1.mono B0.out.size)); have C1 := hid (bnext C0.out hb1); have V1 := hid hv1
  clear hb1 hv1
  go_wp2_with fail
  refine ⟨T.out.cells C1.out, ?_⟩
  refine held_one (i := 3) (by kernel_rfl) (by rfl) (by rfl) ?_
  go_wp2_with fail
  refine (F2 _ _ _ (HP.out.call B1.out) V1.out).out.mono ?_; rintro e w3 ⟨⟨v3, rfl, hv3⟩, hb3⟩
  have B3 := hid (B1.out.trans (hb3.mono B1.out.size)); have C3 := hid (bnext C1.out hb3)
  clear hb3
  obtain ⟨N3, D3, rfl, hN3, hD3⟩ := hv3.ex
  obtain ⟨a5, c5, rfl, _⟩ := hN3.openI
  obtain ⟨a6, c6, rfl, _⟩ := hD3.openI
  obtain ⟨k5, hk5⟩ : ∃ k, (limbs Q.num.natAbs).length = k := ⟨_, rfl⟩
  obtain ⟨k6, hk6⟩ : ∃ k, (limbs Q.den).length = k := ⟨_, rfl⟩
  obtain ⟨mq, hmq⟩ : ∃ m, decide (Q.num < 0) = m := ⟨_, rfl⟩
  rw [hk5] at hN3 ⊢
  rw [hk6] at hD3 ⊢
  rw [hmq]
  have HN3 := hid hN3; have HD3 := hid hD3; have HMQ := hid hmq
  have Z := hid (T.out.b2.call C3.out)
  have t0 := Z.out.cell 0
  have t1 := Z.out.cell 1
  have t2 := Z.out.cell 2
  have t3 := Z.out.free 0
  have t4 := Z.out.free 1
  have t5 := Z.out.free 2
  simp at t0 t1 t2
  clear hv3 hN3 hD3 hk5 hk6 hmq
  go_wp2_with fail
  refine ⟨T.out.cells C3.out, ?_⟩
  refine held_one (i := 4) (by kernel_rfl) (by rfl) (by rfl) ?_
  go_wp2_with fail
  refine ⟨T.out.stored C3.out _ _ _, ?_⟩
  refine wpAnyH_done (by kernel_rfl) ?_ _
  simp only [Only]
  obtain ⟨s1, s2⟩ := set3 Z.out mq a5 a6 k5 c5 k6 c6
  have f0 := s2.cell 0
  have f1 := s2.cell 1
  have f2 := s2.cell 2
  simp at f0 f1 f2
  clear t0 t1 t2 t3 t4 t5
  go_wp2_with fail
  refine bodyPost_ret (v := .agg #[.bool mq, .slice a5 k5 c5, .slice a6 k6 c6]) (by simp [results, Tryz.results166, go_sem, f0, f1, f2]) rfl ⟨⟨_, rfl, ⟨.slice a5 k5 c5, .slice a6 k6 c6, by rw [HMQ.out], s1 _ _ _ HN3.out, s1 _ _ _ HD3.out⟩⟩, ?_⟩
  exact ((B3.out.setCell (by simp; omega) _).setCell (by simp; omega) _).setCell (by simp; omega) _
end Go.Proofs.YtikfgddgfddbaaaGreatDoor

/- Walks: rat.both; Add, Sub, Mul, Div, Inv. -/
namespace Go.Proofs.YtikfgddgfddbaaaGreatDoor
open Go.RowKit Go.Shelf
open Go.Lib (decDigits nDigits)
set_option linter.unusedVariables false
set_option linter.unusedSimpArgs false

set_option maxRecDepth 100000 in
set_option maxHeartbeats 1000000 in
theorem q_both (w : World) (s t : ByteArray) (F : Nat) (R : ByteArray) (x : Int) (hs : s.size ≤ 1000000) (ht : t.size ≤ 1000000) (hL : Lay w)
    (hen : ∀ args w, (callFunc F args).run Tryz.prog w = .ok (.enter F args) w)
    (hF : ∀ W v u, qE s = 0 → qE t = 0 → IsQ .u64 W v (vQ s) → IsQ .u64 W u (vQ t) → Lay W → Calls Tryz.prog F #[v, u] W fun e w' => e = .returned (.tuple #[.string R, .int .i64 x]) ∧ Below W.heap.size W w') :
    Calls Tryz.prog 113 #[.string s, .string t, .func (.func F) #[] #[]] w fun e w' => e = .returned (.tuple #[.string (tB R s t), .int .i64 (tE x s t)]) ∧ Below w.heap.size w w' := by
  have HF := hid hF
  have HL := hid hL
  have HEN := hid hen
  have HT := hid ht
  have b1 := hid ((Below.refl w.heap.size w).alloc (Nat.le_refl _) (.cells #[.string t] 22))
  obtain ⟨w1, hw1⟩ : ∃ w1, w.alloc (.cells #[.string t] 22) = w1 := ⟨_, rfl⟩
  obtain ⟨g1, hg1⟩ : ∃ g, w.heap.size = g := ⟨_, rfl⟩
  have X1 := hid (Blk.new w #[.string t] 22)
  rw [hw1] at b1
  rw [hw1, hg1] at X1
  have b2 := hid ((Below.refl w1.heap.size w1).alloc (Nat.le_refl _) (.cells #[.func (.func F) #[] #[]] 120))
  obtain ⟨w2, hw2⟩ : ∃ w2, w1.alloc (.cells #[.func (.func F) #[] #[]] 120) = w2 := ⟨_, rfl⟩
  have X2 := hid (Blk.new w1 #[.func (.func F) #[] #[]] 120)
  have X12 := hid (X1.out.call b2.out)
  have y2 := hid (bnext b1.out b2.out)
  have hg2 : w1.heap.size = g1 + 1 := by rw [← hw1, ← hg1]; simp
  rw [hw2] at b2 X12 y2
  rw [hw2, hg2] at X2
  have L2 := hid (HL.out.call y2.out)
  have W2 := hid (q_with w2 s 162 #[.pointer (some ⟨g1, 0, none⟩), .pointer (some ⟨g1 + 1, 0, none⟩)] (wB R t) (wE x t) hs L2.out (enters_of Tryz.func162 (by kernel_rfl) rfl)
    (fun W v hq hb hv hLW => by
      have hX1 := (X12.out.call hb).cell 0
      have hX2 := (X2.out.call hb).cell 0
      exact q_both1 W v t (vQ s) F g1 (g1 + 1) R x HT.out hv hLW HEN.out hX1 hX2 (fun W v u h0 h1 h2 h3 => HF.out W v u hq h0 h1 h2 h3)))
  have HW1 := hid hw1; have HW2 := hid hw2; have HG1 := hid hg1
  clear hF hL hen hs ht hw1 hw2 hg1 hg2 b1
  go_enter Tryz.func113, Tryz.ntmps113
  go_wp2_with fail
  have hw1 := HW1.out; have hw2 := HW2.out; have hg1 := HG1.out
  rw [hw1, hg1, hw2]
  refine W2.out.mono ?_; rintro e w3 ⟨rfl, hb3⟩
  have y3 := hid (bnext y2.out hb3)
  clear hb3 hw1 hw2 hg1
  go_wp2_with fail
  go_ret2
  exact ⟨rfl, by have := y3.out; exact this⟩
end Go.Proofs.YtikfgddgfddbaaaGreatDoor

/- Walks: rat.Mul, Add, Sub. -/
namespace Go.Proofs.YtikfgddgfddbaaaGreatDoor
open Go.RowKit Go.Shelf
open Go.Lib (decDigits nDigits)
set_option linter.unusedVariables false
set_option linter.unusedSimpArgs false

/-- A rational number of few limbs. -/
structure Sml (K : Nat) (q : Rat) : Prop where
  n : (limbs q.num.natAbs).length ≤ K
  d : (limbs q.den).length ≤ K

theorem sml_vQ {s : ByteArray} (h : qE s = 0) : Sml 1000 (vQ s) := by
  obtain ⟨-, e2, e3⟩ := vQ_ok h
  obtain ⟨-, -, -, l1, l2, -⟩ := valid h
  exact ⟨by rw [e2]; exact Nat.le_trans (limbs_of_digits l1) (by omega), by rw [e3]; exact Nat.le_trans (limbs_of_digits l2) (by omega)⟩
theorem Sml.up {K L : Nat} {q : Rat} (h : Sml K q) (hl : K ≤ L) : Sml L q := ⟨Nat.le_trans h.n hl, Nat.le_trans h.d hl⟩
theorem sml_neg {K : Nat} {q : Rat} (h : Sml K q) : Sml K (-q) := ⟨by rw [Rat.neg_num, Int.natAbs_neg]; exact h.n, by rw [Rat.neg_den]; exact h.d⟩
theorem sml_mk {K : Nat} {z : Int} {d : Nat} (hd : 0 < d) (h1 : (limbs z.natAbs).length ≤ K) (h2 : (limbs d).length ≤ K) : Sml K (mkRat z d) := by
  refine ⟨?_, ?_⟩
  · rw [Rat.num_mkRat, if_neg (by omega)]
    refine Nat.le_trans (limbs_length_mono ?_) h1
    exact Int.natAbs_ediv_le_natAbs _ _
  · rw [Rat.den_mkRat, if_neg (by omega)]
    exact Nat.le_trans (limbs_length_mono (Nat.div_le_self _ _)) h2
theorem sml_mulK {K L : Nat} {p q : Rat} (hp : Sml K p) (hq : Sml L q) : Sml (K + L) (p * q) := by
  rw [← qmk_mul]
  unfold qmk
  exact sml_mk (Nat.mul_pos p.den_pos q.den_pos) (by rw [sgn_natAbs]; exact limbs_mul hp.n hq.n) (limbs_mul hp.d hq.d)
theorem sgn_abs_le (m1 m2 : Bool) (x y : Nat) : (sgn m1 x + sgn m2 y).natAbs ≤ x + y := by
  cases m1 <;> cases m2 <;> simp [sgn] <;> omega
theorem sml_addK {K L : Nat} {p q : Rat} (hp : Sml K p) (hq : Sml L q) : Sml (K + L + (K + L) + 1) (p + q) := by
  rw [q_add]
  refine sml_mk (Nat.mul_pos p.den_pos q.den_pos) ?_ (Nat.le_trans (limbs_mul hp.d hq.d) (by omega))
  refine Nat.le_trans (limbs_length_mono (sgn_abs_le _ _ _ _)) ?_
  exact Nat.le_trans (len_add (limbs_mul hp.n hq.d) (limbs_mul hq.n hp.d)) (by omega)
theorem sml_mul {p q : Rat} (hp : Sml 1000 p) (hq : Sml 1000 q) : Sml 10000 (p * q) := (sml_mulK hp hq).up (by omega)
theorem sml_add {p q : Rat} (hp : Sml 1000 p) (hq : Sml 1000 q) : Sml 10000 (p + q) := (sml_addK hp hq).up (by omega)
theorem sml_sub {p q : Rat} (hp : Sml 1000 p) (hq : Sml 1000 q) : Sml 10000 (p - q) := by rw [Rat.sub_eq_add_neg]; exact sml_add hp (sml_neg hq)

theorem t2B {f : Rat → Rat → Rat} {s t : ByteArray} : tB (outB (f (vQ s) (vQ t))) s t = op2B f s t := by
  unfold tB wB op2B
  by_cases h1 : qE s = 0 <;> by_cases h2 : qE t = 0 <;> simp [h1, h2]
theorem t2E {f : Rat → Rat → Rat} {s t : ByteArray} : tE (outE (f (vQ s) (vQ t))) s t = op2E f s t := by
  unfold tE wE op2E
  by_cases h1 : qE s = 0 <;> by_cases h2 : qE t = 0 <;> simp [h1, h2]

set_option maxRecDepth 100000 in
set_option maxHeartbeats 1000000 in
theorem q_Mul1 (w : World) (v u : Value) (p q : Rat) (hp : IsQ .u64 w v p) (hq : IsQ .u64 w u q) (sp : Sml 1000 p) (sq : Sml 1000 q) (hL : Lay w) :
    Calls Tryz.prog 114 #[v, u] w fun e w' => e = .returned (.tuple #[.string (outB (p * q)), .int .i64 (outE (p * q))]) ∧ Below w.heap.size w w' := by
  have F1 := fun V v u hv hu => hid (f_Mul V v u p q hv hu (Nat.le_trans sp.n (by omega)) (Nat.le_trans sp.d (by omega)) (Nat.le_trans sq.n (by omega)) (Nat.le_trans sq.d (by omega)))
  have SQ := sml_mul sp sq
  have F2 := fun V v hv hV => hid (f_Num V v (p * q) hv (Nat.le_trans SQ.n (by omega)) (Nat.le_trans SQ.d (by omega)) hV)
  obtain ⟨Q, hQ⟩ : ∃ Q, p * q = Q := ⟨_, rfl⟩
  rw [hQ] at F1 F2 ⊢
  have HL := hid hL
  obtain ⟨N1, D1, rfl, hn1, hd1⟩ := hp.ex
  obtain ⟨N2, D2, rfl, hn2, hd2⟩ := hq.ex
  obtain ⟨a1, c1, rfl, _⟩ := hn1.openI
  obtain ⟨a2, c2, rfl, _⟩ := hd1.openI
  obtain ⟨a3, c3, rfl, _⟩ := hn2.openI
  obtain ⟨a4, c4, rfl, _⟩ := hd2.openI
  obtain ⟨k1, hk1⟩ : ∃ k, (limbs p.num.natAbs).length = k := ⟨_, rfl⟩
  obtain ⟨k2, hk2⟩ : ∃ k, (limbs p.den).length = k := ⟨_, rfl⟩
  obtain ⟨k3, hk3⟩ : ∃ k, (limbs q.num.natAbs).length = k := ⟨_, rfl⟩
  obtain ⟨k4, hk4⟩ : ∃ k, (limbs q.den).length = k := ⟨_, rfl⟩
  obtain ⟨m1, hm1⟩ : ∃ m, decide (p.num < 0) = m := ⟨_, rfl⟩
  obtain ⟨m2, hm2⟩ : ∃ m, decide (q.num < 0) = m := ⟨_, rfl⟩
  rw [hk1, hk2, hm1] at hp ⊢
  rw [hk3, hk4, hm2] at hq ⊢
  have X1 := hid (Blk.new w #[.bool m1, .slice a1 k1 c1, .slice a2 k2 c2] 110)
  have b1 := hid ((Below.refl w.heap.size w).alloc (Nat.le_refl _) (.cells #[.bool m1, .slice a1 k1 c1, .slice a2 k2 c2] 110))
  have Y1 := hid (X1.out.alloc (.cells #[.bool m2, .slice a3 k3 c3, .slice a4 k4 c4] 110))
  have X2 := hid (Blk.new (w.alloc (.cells #[.bool m1, .slice a1 k1 c1, .slice a2 k2 c2] 110)) #[.bool m2, .slice a3 k3 c3, .slice a4 k4 c4] 110)
  have b2 := hid (b1.out.alloc b1.out.size (.cells #[.bool m2, .slice a3 k3 c3, .slice a4 k4 c4] 110))
  have P2 := hid (hp.call b2.out)
  have Q2 := hid (hq.call b2.out)
  have r0 := Y1.out.cell 0
  have r1 := Y1.out.cell 1
  have r2 := Y1.out.cell 2
  have s0 := X2.out.cell 0
  have s1 := X2.out.cell 1
  have s2 := X2.out.cell 2
  simp at r0 r1 r2 s0 s1 s2
  clear hk1 hk2 hk3 hk4 hm1 hm2 hn1 hn2 hd1 hd2 hp hq hL sp sq SQ hQ
  go_enter Tryz.func114, Tryz.ntmps114
  go_wp2_with fail
  refine (F1 _ _ _ P2.out Q2.out).out.mono ?_; rintro e w3 ⟨⟨v3, rfl, hv3⟩, hb3⟩
  have y3 := hid (bnext b2.out hb3)
  obtain ⟨N3, D3, rfl, hn3, hd3⟩ := hv3.ex
  obtain ⟨a5, c5, rfl, _⟩ := hn3.openI
  obtain ⟨a6, c6, rfl, _⟩ := hd3.openI
  obtain ⟨k5, hk5⟩ : ∃ k, (limbs Q.num.natAbs).length = k := ⟨_, rfl⟩
  obtain ⟨k6, hk6⟩ : ∃ k, (limbs Q.den).length = k := ⟨_, rfl⟩
  obtain ⟨m3, hm3⟩ : ∃ m, decide (Q.num < 0) = m := ⟨_, rfl⟩
  rw [hk5, hk6, hm3] at hv3 ⊢
  have V3 := hid hv3
  clear hb3 hv3 hn3 hd3 hk5 hk6 hm3
  go_wp2_with fail
  refine (F2 _ _ V3.out (HL.out.call y3.out)).out.mono ?_; rintro e w4 ⟨rfl, hb4⟩
  have y4 := hid (bnext y3.out hb4); clear hb4
  go_wp2_with fail
  go_ret2
  exact ⟨rfl, y4.out⟩

set_option maxRecDepth 100000 in
set_option maxHeartbeats 1000000 in
theorem q_Mul (w : World) (s t : ByteArray) (hs : s.size ≤ 1000000) (ht : t.size ≤ 1000000) (hL : Lay w) :
    Calls Tryz.prog 69 #[.string s, .string t] w fun e w' => e = .returned (.tuple #[.string (op2B (· * ·) s t), .int .i64 (op2E (· * ·) s t)]) ∧ Below w.heap.size w w' := by
  have H := hid (q_both w s t 114 (outB (vQ s * vQ t)) (outE (vQ s * vQ t)) hs ht hL (enters_of Tryz.func114 (by kernel_rfl) rfl)
    (fun W v u h1 h2 hv hu hLW => q_Mul1 W v u _ _ hv hu (sml_vQ h1) (sml_vQ h2) hLW))
  rw [t2B, t2E (f := (· * ·))] at H
  obtain ⟨B, hB⟩ : ∃ B, op2B (· * ·) s t = B := ⟨_, rfl⟩
  obtain ⟨E, hE⟩ : ∃ E, op2E (· * ·) s t = E := ⟨_, rfl⟩
  rw [hB, hE] at H ⊢
  clear hB hE hs ht hL
  go_enter Tryz.func69, Tryz.ntmps69
  go_wp2_with fail
  refine H.out.mono ?_; rintro e w1 ⟨rfl, hb1⟩
  have y1 := hid hb1; clear hb1
  go_wp2_with fail
  go_ret2
  exact ⟨rfl, y1.out⟩

set_option maxRecDepth 100000 in
set_option maxHeartbeats 1000000 in
theorem q_Add1 (w : World) (v u : Value) (p q : Rat) (hp : IsQ .u64 w v p) (hq : IsQ .u64 w u q) (sp : Sml 1000 p) (sq : Sml 1000 q) (hL : Lay w) :
    Calls Tryz.prog 119 #[v, u] w fun e w' => e = .returned (.tuple #[.string (outB (p + q)), .int .i64 (outE (p + q))]) ∧ Below w.heap.size w w' := by
  have F1 := fun V v u hv hu => hid (f_Add V v u p q hv hu (Nat.le_trans sp.n (by omega)) (Nat.le_trans sp.d (by omega)) (Nat.le_trans sq.n (by omega)) (Nat.le_trans sq.d (by omega)))
  have SQ := sml_add sp sq
  have F2 := fun V v hv hV => hid (f_Num V v (p + q) hv (Nat.le_trans SQ.n (by omega)) (Nat.le_trans SQ.d (by omega)) hV)
  obtain ⟨Q, hQ⟩ : ∃ Q, p + q = Q := ⟨_, rfl⟩
  rw [hQ] at F1 F2 ⊢
  have HL := hid hL
  obtain ⟨N1, D1, rfl, hn1, hd1⟩ := hp.ex
  obtain ⟨N2, D2, rfl, hn2, hd2⟩ := hq.ex
  obtain ⟨a1, c1, rfl, _⟩ := hn1.openI
  obtain ⟨a2, c2, rfl, _⟩ := hd1.openI
  obtain ⟨a3, c3, rfl, _⟩ := hn2.openI
  obtain ⟨a4, c4, rfl, _⟩ := hd2.openI
  obtain ⟨k1, hk1⟩ : ∃ k, (limbs p.num.natAbs).length = k := ⟨_, rfl⟩
  obtain ⟨k2, hk2⟩ : ∃ k, (limbs p.den).length = k := ⟨_, rfl⟩
  obtain ⟨k3, hk3⟩ : ∃ k, (limbs q.num.natAbs).length = k := ⟨_, rfl⟩
  obtain ⟨k4, hk4⟩ : ∃ k, (limbs q.den).length = k := ⟨_, rfl⟩
  obtain ⟨m1, hm1⟩ : ∃ m, decide (p.num < 0) = m := ⟨_, rfl⟩
  obtain ⟨m2, hm2⟩ : ∃ m, decide (q.num < 0) = m := ⟨_, rfl⟩
  rw [hk1, hk2, hm1] at hp ⊢
  rw [hk3, hk4, hm2] at hq ⊢
  have X1 := hid (Blk.new w #[.bool m1, .slice a1 k1 c1, .slice a2 k2 c2] 110)
  have b1 := hid ((Below.refl w.heap.size w).alloc (Nat.le_refl _) (.cells #[.bool m1, .slice a1 k1 c1, .slice a2 k2 c2] 110))
  have Y1 := hid (X1.out.alloc (.cells #[.bool m2, .slice a3 k3 c3, .slice a4 k4 c4] 110))
  have X2 := hid (Blk.new (w.alloc (.cells #[.bool m1, .slice a1 k1 c1, .slice a2 k2 c2] 110)) #[.bool m2, .slice a3 k3 c3, .slice a4 k4 c4] 110)
  have b2 := hid (b1.out.alloc b1.out.size (.cells #[.bool m2, .slice a3 k3 c3, .slice a4 k4 c4] 110))
  have P2 := hid (hp.call b2.out)
  have Q2 := hid (hq.call b2.out)
  have r0 := Y1.out.cell 0
  have r1 := Y1.out.cell 1
  have r2 := Y1.out.cell 2
  have s0 := X2.out.cell 0
  have s1 := X2.out.cell 1
  have s2 := X2.out.cell 2
  simp at r0 r1 r2 s0 s1 s2
  clear hk1 hk2 hk3 hk4 hm1 hm2 hn1 hn2 hd1 hd2 hp hq hL sp sq SQ hQ
  go_enter Tryz.func119, Tryz.ntmps119
  go_wp2_with fail
  refine (F1 _ _ _ P2.out Q2.out).out.mono ?_; rintro e w3 ⟨⟨v3, rfl, hv3⟩, hb3⟩
  have y3 := hid (bnext b2.out hb3)
  obtain ⟨N3, D3, rfl, hn3, hd3⟩ := hv3.ex
  obtain ⟨a5, c5, rfl, _⟩ := hn3.openI
  obtain ⟨a6, c6, rfl, _⟩ := hd3.openI
  obtain ⟨k5, hk5⟩ : ∃ k, (limbs Q.num.natAbs).length = k := ⟨_, rfl⟩
  obtain ⟨k6, hk6⟩ : ∃ k, (limbs Q.den).length = k := ⟨_, rfl⟩
  obtain ⟨m3, hm3⟩ : ∃ m, decide (Q.num < 0) = m := ⟨_, rfl⟩
  rw [hk5, hk6, hm3] at hv3 ⊢
  have V3 := hid hv3
  clear hb3 hv3 hn3 hd3 hk5 hk6 hm3
  go_wp2_with fail
  refine (F2 _ _ V3.out (HL.out.call y3.out)).out.mono ?_; rintro e w4 ⟨rfl, hb4⟩
  have y4 := hid (bnext y3.out hb4); clear hb4
  go_wp2_with fail
  go_ret2
  exact ⟨rfl, y4.out⟩

set_option maxRecDepth 100000 in
set_option maxHeartbeats 1000000 in
theorem q_Add (w : World) (s t : ByteArray) (hs : s.size ≤ 1000000) (ht : t.size ≤ 1000000) (hL : Lay w) :
    Calls Tryz.prog 75 #[.string s, .string t] w fun e w' => e = .returned (.tuple #[.string (op2B (· + ·) s t), .int .i64 (op2E (· + ·) s t)]) ∧ Below w.heap.size w w' := by
  have H := hid (q_both w s t 119 (outB (vQ s + vQ t)) (outE (vQ s + vQ t)) hs ht hL (enters_of Tryz.func119 (by kernel_rfl) rfl)
    (fun W v u h1 h2 hv hu hLW => q_Add1 W v u _ _ hv hu (sml_vQ h1) (sml_vQ h2) hLW))
  rw [t2B, t2E (f := (· + ·))] at H
  obtain ⟨B, hB⟩ : ∃ B, op2B (· + ·) s t = B := ⟨_, rfl⟩
  obtain ⟨E, hE⟩ : ∃ E, op2E (· + ·) s t = E := ⟨_, rfl⟩
  rw [hB, hE] at H ⊢
  clear hB hE hs ht hL
  go_enter Tryz.func75, Tryz.ntmps75
  go_wp2_with fail
  refine H.out.mono ?_; rintro e w1 ⟨rfl, hb1⟩
  have y1 := hid hb1; clear hb1
  go_wp2_with fail
  go_ret2
  exact ⟨rfl, y1.out⟩

set_option maxRecDepth 100000 in
set_option maxHeartbeats 1000000 in
theorem q_Sub1 (w : World) (v u : Value) (p q : Rat) (hp : IsQ .u64 w v p) (hq : IsQ .u64 w u q) (sp : Sml 1000 p) (sq : Sml 1000 q) (hL : Lay w) :
    Calls Tryz.prog 116 #[v, u] w fun e w' => e = .returned (.tuple #[.string (outB (p - q)), .int .i64 (outE (p - q))]) ∧ Below w.heap.size w w' := by
  have F1 := fun V v u hv hu => hid (f_Sub V v u p q hv hu (Nat.le_trans sp.n (by omega)) (Nat.le_trans sp.d (by omega)) (Nat.le_trans sq.n (by omega)) (Nat.le_trans sq.d (by omega)))
  have SQ := sml_sub sp sq
  have F2 := fun V v hv hV => hid (f_Num V v (p - q) hv (Nat.le_trans SQ.n (by omega)) (Nat.le_trans SQ.d (by omega)) hV)
  obtain ⟨Q, hQ⟩ : ∃ Q, p - q = Q := ⟨_, rfl⟩
  rw [hQ] at F1 F2 ⊢
  have HL := hid hL
  obtain ⟨N1, D1, rfl, hn1, hd1⟩ := hp.ex
  obtain ⟨N2, D2, rfl, hn2, hd2⟩ := hq.ex
  obtain ⟨a1, c1, rfl, _⟩ := hn1.openI
  obtain ⟨a2, c2, rfl, _⟩ := hd1.openI
  obtain ⟨a3, c3, rfl, _⟩ := hn2.openI
  obtain ⟨a4, c4, rfl, _⟩ := hd2.openI
  obtain ⟨k1, hk1⟩ : ∃ k, (limbs p.num.natAbs).length = k := ⟨_, rfl⟩
  obtain ⟨k2, hk2⟩ : ∃ k, (limbs p.den).length = k := ⟨_, rfl⟩
  obtain ⟨k3, hk3⟩ : ∃ k, (limbs q.num.natAbs).length = k := ⟨_, rfl⟩
  obtain ⟨k4, hk4⟩ : ∃ k, (limbs q.den).length = k := ⟨_, rfl⟩
  obtain ⟨m1, hm1⟩ : ∃ m, decide (p.num < 0) = m := ⟨_, rfl⟩
  obtain ⟨m2, hm2⟩ : ∃ m, decide (q.num < 0) = m := ⟨_, rfl⟩
  rw [hk1, hk2, hm1] at hp ⊢
  rw [hk3, hk4, hm2] at hq ⊢
  have X1 := hid (Blk.new w #[.bool m1, .slice a1 k1 c1, .slice a2 k2 c2] 110)
  have b1 := hid ((Below.refl w.heap.size w).alloc (Nat.le_refl _) (.cells #[.bool m1, .slice a1 k1 c1, .slice a2 k2 c2] 110))
  have Y1 := hid (X1.out.alloc (.cells #[.bool m2, .slice a3 k3 c3, .slice a4 k4 c4] 110))
  have X2 := hid (Blk.new (w.alloc (.cells #[.bool m1, .slice a1 k1 c1, .slice a2 k2 c2] 110)) #[.bool m2, .slice a3 k3 c3, .slice a4 k4 c4] 110)
  have b2 := hid (b1.out.alloc b1.out.size (.cells #[.bool m2, .slice a3 k3 c3, .slice a4 k4 c4] 110))
  have P2 := hid (hp.call b2.out)
  have Q2 := hid (hq.call b2.out)
  have r0 := Y1.out.cell 0
  have r1 := Y1.out.cell 1
  have r2 := Y1.out.cell 2
  have s0 := X2.out.cell 0
  have s1 := X2.out.cell 1
  have s2 := X2.out.cell 2
  simp at r0 r1 r2 s0 s1 s2
  clear hk1 hk2 hk3 hk4 hm1 hm2 hn1 hn2 hd1 hd2 hp hq hL sp sq SQ hQ
  go_enter Tryz.func116, Tryz.ntmps116
  go_wp2_with fail
  refine (F1 _ _ _ P2.out Q2.out).out.mono ?_; rintro e w3 ⟨⟨v3, rfl, hv3⟩, hb3⟩
  have y3 := hid (bnext b2.out hb3)
  obtain ⟨N3, D3, rfl, hn3, hd3⟩ := hv3.ex
  obtain ⟨a5, c5, rfl, _⟩ := hn3.openI
  obtain ⟨a6, c6, rfl, _⟩ := hd3.openI
  obtain ⟨k5, hk5⟩ : ∃ k, (limbs Q.num.natAbs).length = k := ⟨_, rfl⟩
  obtain ⟨k6, hk6⟩ : ∃ k, (limbs Q.den).length = k := ⟨_, rfl⟩
  obtain ⟨m3, hm3⟩ : ∃ m, decide (Q.num < 0) = m := ⟨_, rfl⟩
  rw [hk5, hk6, hm3] at hv3 ⊢
  have V3 := hid hv3
  clear hb3 hv3 hn3 hd3 hk5 hk6 hm3
  go_wp2_with fail
  refine (F2 _ _ V3.out (HL.out.call y3.out)).out.mono ?_; rintro e w4 ⟨rfl, hb4⟩
  have y4 := hid (bnext y3.out hb4); clear hb4
  go_wp2_with fail
  go_ret2
  exact ⟨rfl, y4.out⟩

set_option maxRecDepth 100000 in
set_option maxHeartbeats 1000000 in
theorem q_Sub (w : World) (s t : ByteArray) (hs : s.size ≤ 1000000) (ht : t.size ≤ 1000000) (hL : Lay w) :
    Calls Tryz.prog 70 #[.string s, .string t] w fun e w' => e = .returned (.tuple #[.string (op2B (· - ·) s t), .int .i64 (op2E (· - ·) s t)]) ∧ Below w.heap.size w w' := by
  have H := hid (q_both w s t 116 (outB (vQ s - vQ t)) (outE (vQ s - vQ t)) hs ht hL (enters_of Tryz.func116 (by kernel_rfl) rfl)
    (fun W v u h1 h2 hv hu hLW => q_Sub1 W v u _ _ hv hu (sml_vQ h1) (sml_vQ h2) hLW))
  rw [t2B, t2E (f := (· - ·))] at H
  obtain ⟨B, hB⟩ : ∃ B, op2B (· - ·) s t = B := ⟨_, rfl⟩
  obtain ⟨E, hE⟩ : ∃ E, op2E (· - ·) s t = E := ⟨_, rfl⟩
  rw [hB, hE] at H ⊢
  clear hB hE hs ht hL
  go_enter Tryz.func70, Tryz.ntmps70
  go_wp2_with fail
  refine H.out.mono ?_; rintro e w1 ⟨rfl, hb1⟩
  have y1 := hid hb1; clear hb1
  go_wp2_with fail
  go_ret2
  exact ⟨rfl, y1.out⟩

end Go.Proofs.YtikfgddgfddbaaaGreatDoor

/- Walks: rat.Div, rat.Inv. -/
namespace Go.Proofs.YtikfgddgfddbaaaGreatDoor
open Go.RowKit Go.Shelf
open Go.Lib (decDigits nDigits)
set_option linter.unusedVariables false
set_option linter.unusedSimpArgs false

/-- A quotient's text and error. -/
def dvB (p q : Rat) : ByteArray := if q = 0 then ⟨#[]⟩ else outB (p / q)
def dvE (p q : Rat) : Int := if q = 0 then 6 else outE (p / q)
theorem sml_inv {K : Nat} {q : Rat} (h0 : q ≠ 0) (h : Sml K q) : Sml K q⁻¹ := ⟨by rw [(inv_num h0).2.1]; exact h.d, by rw [(inv_num h0).2.2]; exact h.n⟩
theorem sml_div {p q : Rat} (h0 : q ≠ 0) (hp : Sml 1000 p) (hq : Sml 1000 q) : Sml 10000 (p / q) := by rw [Rat.div_def]; exact sml_mul hp (sml_inv h0 hq)
theorem sg_ne {q : Rat} (h : q ≠ 0) : (sgQ q == 0) = false := by
  rw [beq_eq_false_iff_ne]
  have : q.num ≠ 0 := fun e => h (Rat.num_eq_zero.1 e)
  unfold sgQ
  repeat' split
  all_goals first | omega | (intro h; omega) | simp_all

set_option maxRecDepth 100000 in
set_option maxHeartbeats 1000000 in
theorem q_Div1_zero (w : World) (v u : Value) (p q : Rat) (hp : IsQ .u64 w v p) (hq : IsQ .u64 w u q) (sp : Sml 1000 p) (sq : Sml 1000 q) (h0 : q = 0) (hL : Lay w) :
    Calls Tryz.prog 165 #[v, u] w fun e w' => e = .returned (.tuple #[.string (⟨#[]⟩), .int .i64 (6)]) ∧ Below w.heap.size w w' := by
  have F0 := fun V u hu => hid (f_Sign V u q hu)
  have HL := hid hL
  obtain ⟨N1, D1, rfl, hn1, hd1⟩ := hp.ex
  obtain ⟨N2, D2, rfl, hn2, hd2⟩ := hq.ex
  obtain ⟨a1, c1, rfl, _⟩ := hn1.openI
  obtain ⟨a2, c2, rfl, _⟩ := hd1.openI
  obtain ⟨a3, c3, rfl, _⟩ := hn2.openI
  obtain ⟨a4, c4, rfl, _⟩ := hd2.openI
  obtain ⟨k1, hk1⟩ : ∃ k, (limbs p.num.natAbs).length = k := ⟨_, rfl⟩
  obtain ⟨k2, hk2⟩ : ∃ k, (limbs p.den).length = k := ⟨_, rfl⟩
  obtain ⟨k3, hk3⟩ : ∃ k, (limbs q.num.natAbs).length = k := ⟨_, rfl⟩
  obtain ⟨k4, hk4⟩ : ∃ k, (limbs q.den).length = k := ⟨_, rfl⟩
  obtain ⟨m1, hm1⟩ : ∃ m, decide (p.num < 0) = m := ⟨_, rfl⟩
  obtain ⟨m2, hm2⟩ : ∃ m, decide (q.num < 0) = m := ⟨_, rfl⟩
  rw [hk1, hk2, hm1] at hp ⊢
  rw [hk3, hk4, hm2] at hq ⊢
  have X1 := hid (Blk.new w #[.bool m1, .slice a1 k1 c1, .slice a2 k2 c2] 110)
  have b1 := hid ((Below.refl w.heap.size w).alloc (Nat.le_refl _) (.cells #[.bool m1, .slice a1 k1 c1, .slice a2 k2 c2] 110))
  have Y1 := hid (X1.out.alloc (.cells #[.bool m2, .slice a3 k3 c3, .slice a4 k4 c4] 110))
  have X2 := hid (Blk.new (w.alloc (.cells #[.bool m1, .slice a1 k1 c1, .slice a2 k2 c2] 110)) #[.bool m2, .slice a3 k3 c3, .slice a4 k4 c4] 110)
  have b2 := hid (b1.out.alloc b1.out.size (.cells #[.bool m2, .slice a3 k3 c3, .slice a4 k4 c4] 110))
  have P2 := hid (hp.call b2.out)
  have Q2 := hid (hq.call b2.out)
  have s0 := X2.out.cell 0
  have s1 := X2.out.cell 1
  have s2 := X2.out.cell 2
  simp at s0 s1 s2
  clear hk1 hk2 hk3 hk4 hm1 hm2 hn1 hn2 hd1 hd2 hp hq hL sp sq
  go_enter Tryz.func165, Tryz.ntmps165
  go_wp2_with fail
  refine (F0 _ _ Q2.out).out.mono ?_; rintro e w2 ⟨rfl, hb2⟩
  have y2 := hid (bnext b2.out hb2)
  clear hb2
  subst h0
  have q1 : (sgQ 0 == 0) = true := by rfl
  go_wp2_with fail
  go_ret2
  exact ⟨rfl, y2.out⟩

set_option maxRecDepth 100000 in
set_option maxHeartbeats 1000000 in
theorem q_Div1_some (w : World) (v u : Value) (p q : Rat) (hp : IsQ .u64 w v p) (hq : IsQ .u64 w u q) (sp : Sml 1000 p) (sq : Sml 1000 q) (h0 : q ≠ 0) (hL : Lay w) :
    Calls Tryz.prog 165 #[v, u] w fun e w' => e = .returned (.tuple #[.string (outB (p / q)), .int .i64 (outE (p / q))]) ∧ Below w.heap.size w w' := by
  have F0 := fun V u hu => hid (f_Sign V u q hu)
  have F1 := fun V v u hv hu => hid (f_Div V v u p q hv hu h0 (Nat.le_trans sp.n (by omega)) (Nat.le_trans sp.d (by omega)) (Nat.le_trans sq.n (by omega)) (Nat.le_trans sq.d (by omega)))
  have SQ := sml_div h0 sp sq
  have F2 := fun V v hv hV => hid (f_Num V v (p / q) hv (Nat.le_trans SQ.n (by omega)) (Nat.le_trans SQ.d (by omega)) hV)
  have q1 := sg_ne h0
  clear SQ h0
  obtain ⟨Q, hQ⟩ : ∃ Q, p / q = Q := ⟨_, rfl⟩
  rw [hQ] at F1 F2 ⊢
  clear hQ
  have HL := hid hL
  obtain ⟨N1, D1, rfl, hn1, hd1⟩ := hp.ex
  obtain ⟨N2, D2, rfl, hn2, hd2⟩ := hq.ex
  obtain ⟨a1, c1, rfl, _⟩ := hn1.openI
  obtain ⟨a2, c2, rfl, _⟩ := hd1.openI
  obtain ⟨a3, c3, rfl, _⟩ := hn2.openI
  obtain ⟨a4, c4, rfl, _⟩ := hd2.openI
  obtain ⟨k1, hk1⟩ : ∃ k, (limbs p.num.natAbs).length = k := ⟨_, rfl⟩
  obtain ⟨k2, hk2⟩ : ∃ k, (limbs p.den).length = k := ⟨_, rfl⟩
  obtain ⟨k3, hk3⟩ : ∃ k, (limbs q.num.natAbs).length = k := ⟨_, rfl⟩
  obtain ⟨k4, hk4⟩ : ∃ k, (limbs q.den).length = k := ⟨_, rfl⟩
  obtain ⟨m1, hm1⟩ : ∃ m, decide (p.num < 0) = m := ⟨_, rfl⟩
  obtain ⟨m2, hm2⟩ : ∃ m, decide (q.num < 0) = m := ⟨_, rfl⟩
  rw [hk1, hk2, hm1] at hp ⊢
  rw [hk3, hk4, hm2] at hq ⊢
  have X1 := hid (Blk.new w #[.bool m1, .slice a1 k1 c1, .slice a2 k2 c2] 110)
  have b1 := hid ((Below.refl w.heap.size w).alloc (Nat.le_refl _) (.cells #[.bool m1, .slice a1 k1 c1, .slice a2 k2 c2] 110))
  have Y1 := hid (X1.out.alloc (.cells #[.bool m2, .slice a3 k3 c3, .slice a4 k4 c4] 110))
  have X2 := hid (Blk.new (w.alloc (.cells #[.bool m1, .slice a1 k1 c1, .slice a2 k2 c2] 110)) #[.bool m2, .slice a3 k3 c3, .slice a4 k4 c4] 110)
  have b2 := hid (b1.out.alloc b1.out.size (.cells #[.bool m2, .slice a3 k3 c3, .slice a4 k4 c4] 110))
  have P2 := hid (hp.call b2.out)
  have Q2 := hid (hq.call b2.out)
  have s0 := X2.out.cell 0
  have s1 := X2.out.cell 1
  have s2 := X2.out.cell 2
  simp at s0 s1 s2
  clear hk1 hk2 hk3 hk4 hm1 hm2 hn1 hn2 hd1 hd2 hp hq hL sp sq
  go_enter Tryz.func165, Tryz.ntmps165
  go_wp2_with fail
  refine (F0 _ _ Q2.out).out.mono ?_; rintro e w2 ⟨rfl, hb2⟩
  have y2 := hid (bnext b2.out hb2)
  have Y1' := hid (Y1.out.call hb2); have X2' := hid (X2.out.call hb2); have P2' := hid (P2.out.call hb2); have Q2' := hid (Q2.out.call hb2)
  have r0 := Y1'.out.cell 0
  have r1 := Y1'.out.cell 1
  have r2 := Y1'.out.cell 2
  have s0 := X2'.out.cell 0
  have s1 := X2'.out.cell 1
  have s2 := X2'.out.cell 2
  simp at r0 r1 r2 s0 s1 s2
  clear hb2
  go_wp2_with fail
  refine (F1 _ _ _ P2'.out Q2'.out).out.mono ?_; rintro e w3 ⟨⟨v3, rfl, hv3⟩, hb3⟩
  have y3 := hid (bnext y2.out hb3)
  obtain ⟨N3, D3, rfl, hn3, hd3⟩ := hv3.ex
  obtain ⟨a5, c5, rfl, _⟩ := hn3.openI
  obtain ⟨a6, c6, rfl, _⟩ := hd3.openI
  obtain ⟨k5, hk5⟩ : ∃ k, (limbs Q.num.natAbs).length = k := ⟨_, rfl⟩
  obtain ⟨k6, hk6⟩ : ∃ k, (limbs Q.den).length = k := ⟨_, rfl⟩
  obtain ⟨m3, hm3⟩ : ∃ m, decide (Q.num < 0) = m := ⟨_, rfl⟩
  rw [hk5, hk6, hm3] at hv3 ⊢
  have V3 := hid hv3
  clear hb3 hv3 hn3 hd3 hk5 hk6 hm3
  go_wp2_with fail
  refine (F2 _ _ V3.out (HL.out.call y3.out)).out.mono ?_; rintro e w4 ⟨rfl, hb4⟩
  have y4 := hid (bnext y3.out hb4); clear hb4
  go_wp2_with fail
  go_ret2
  exact ⟨rfl, y4.out⟩

theorem q_Div1 (w : World) (v u : Value) (p q : Rat) (hp : IsQ .u64 w v p) (hq : IsQ .u64 w u q) (sp : Sml 1000 p) (sq : Sml 1000 q) (hL : Lay w) :
    Calls Tryz.prog 165 #[v, u] w fun e w' => e = .returned (.tuple #[.string (dvB p q), .int .i64 (dvE p q)]) ∧ Below w.heap.size w w' := by
  unfold dvB dvE
  by_cases h0 : q = 0
  · rw [if_pos h0, if_pos h0]; exact q_Div1_zero w v u p q hp hq sp sq h0 hL
  · rw [if_neg h0, if_neg h0]; exact q_Div1_some w v u p q hp hq sp sq h0 hL

set_option maxRecDepth 100000 in
set_option maxHeartbeats 1000000 in
theorem q_Div (w : World) (s t : ByteArray) (hs : s.size ≤ 1000000) (ht : t.size ≤ 1000000) (hL : Lay w) :
    Calls Tryz.prog 121 #[.string s, .string t] w fun e w' => e = .returned (.tuple #[.string (tB (dvB (vQ s) (vQ t)) s t), .int .i64 (tE (dvE (vQ s) (vQ t)) s t)]) ∧ Below w.heap.size w w' := by
  have H := hid (q_both w s t 165 (dvB (vQ s) (vQ t)) (dvE (vQ s) (vQ t)) hs ht hL (enters_of Tryz.func165 (by kernel_rfl) rfl)
    (fun W v u h1 h2 hv hu hLW => q_Div1 W v u _ _ hv hu (sml_vQ h1) (sml_vQ h2) hLW))
  obtain ⟨B, hB⟩ : ∃ B, tB (dvB (vQ s) (vQ t)) s t = B := ⟨_, rfl⟩
  obtain ⟨E, hE⟩ : ∃ E, tE (dvE (vQ s) (vQ t)) s t = E := ⟨_, rfl⟩
  rw [hB, hE] at H ⊢
  clear hB hE hs ht hL
  go_enter Tryz.func121, Tryz.ntmps121
  go_wp2_with fail
  refine H.out.mono ?_; rintro e w1 ⟨rfl, hb1⟩
  have y1 := hid hb1; clear hb1
  go_wp2_with fail
  go_ret2
  exact ⟨rfl, y1.out⟩

/-- The inverse's text and error. -/
def ivB (s : ByteArray) : ByteArray := tB (dvB (vQ ⟨#[49]⟩) (vQ s)) ⟨#[49]⟩ s
def ivE (s : ByteArray) : Int := tE (dvE (vQ ⟨#[49]⟩) (vQ s)) ⟨#[49]⟩ s

set_option maxRecDepth 100000 in
set_option maxHeartbeats 1000000 in
theorem q_Inv (w : World) (s : ByteArray) (hs : s.size ≤ 1000000) (hL : Lay w) :
    Calls Tryz.prog 76 #[.string s] w fun e w' => e = .returned (.tuple #[.string (ivB s), .int .i64 (ivE s)]) ∧ Below w.heap.size w w' := by
  have H := hid (q_Div w ⟨#[49]⟩ s (by decide) hs hL)
  unfold ivB ivE
  obtain ⟨B, hB⟩ : ∃ B, tB (dvB (vQ ⟨#[49]⟩) (vQ s)) ⟨#[49]⟩ s = B := ⟨_, rfl⟩
  obtain ⟨E, hE⟩ : ∃ E, tE (dvE (vQ ⟨#[49]⟩) (vQ s)) ⟨#[49]⟩ s = E := ⟨_, rfl⟩
  rw [hB, hE] at H ⊢
  clear hB hE hs hL
  go_enter Tryz.func76, Tryz.ntmps76
  go_wp2_with fail
  refine H.out.mono ?_; rintro e w1 ⟨rfl, hb1⟩
  have y1 := hid hb1; clear hb1
  go_wp2_with fail
  go_ret2
  exact ⟨rfl, y1.out⟩
end Go.Proofs.YtikfgddgfddbaaaGreatDoor

/- Walks: rat.Pow at an exponent that is not negative. -/
namespace Go.Proofs.YtikfgddgfddbaaaGreatDoor
open Go.RowKit Go.Shelf
open Go.Lib (decDigits nDigits)
set_option linter.unusedVariables false
set_option linter.unusedSimpArgs false

theorem sgn_pow (m : Bool) (a : Nat) : ∀ n : Nat, (sgn m a) ^ n = sgn (m && decide (n % 2 = 1)) (a ^ n)
  | 0 => by simp [sgn]
  | n + 1 => by
    rw [Int.pow_succ, sgn_pow m a n, Nat.pow_succ]
    rcases Nat.mod_two_eq_zero_or_one n with h | h
    · have e : (n + 1) % 2 = 1 := by omega
      cases m <;> simp [sgn, h, e, Int.mul_neg]
    · have e : (n + 1) % 2 = 0 := by omega
      cases m <;> simp [sgn, h, e, Int.mul_neg, Int.neg_mul]

theorem pow_parts (q : Rat) (n : Nat) : decide ((q ^ n).num < 0) = (decide (q.num < 0) && decide (n % 2 = 1)) ∧ (q ^ n).num.natAbs = q.num.natAbs ^ n ∧ (q ^ n).den = q.den ^ n := by
  have h1 : (q ^ n).num = sgn (decide (q.num < 0) && decide (n % 2 = 1)) (q.num.natAbs ^ n) := by
    rw [Rat.num_pow, ← sgn_pow, sgn_of]
  refine ⟨?_, by rw [h1, sgn_natAbs], Rat.den_pow q n⟩
  rw [h1]
  by_cases hq : q.num < 0
  · rw [sgn_neg (Nat.pow_pos (by omega))]
  · have : decide (q.num < 0) = false := by simpa using hq
    rw [this]
    simp [sgn]
    exact Int.natCast_nonneg _

theorem pow_over {q : Rat} {n : Nat} (h : 4000 < nDigits (q.num.natAbs ^ n) ∨ 4000 < nDigits (q.den ^ n)) : outB (q ^ n) = ⟨#[]⟩ ∧ outE (q ^ n) = 5 := by
  obtain ⟨-, h2, h3⟩ := pow_parts q n
  have : ovQ (q ^ n) := by unfold ovQ; rw [h2, h3]; exact h
  exact ⟨if_pos this, if_pos this⟩

set_option maxRecDepth 100000 in
set_option maxHeartbeats 1000000 in
theorem q_Pow1 (w : World) (v : Value) (q : Rat) (n g1 : Nat) (hp : IsQ .u64 w v q) (sp : Sml 1000 q) (hn : n ≤ 9223372036854775807) (hL : Lay w) (c1 : w.cell? ⟨g1, 0, none⟩ = some (.int .i64 (n : Nat))) :
    Calls Tryz.prog 108 #[v, .pointer (some ⟨g1, 0, none⟩)] w fun e w' => e = .returned (.tuple #[.string (outB (q ^ n)), .int .i64 (outE (q ^ n))]) ∧ Below w.heap.size w w' := by
  have F1 := fun V v hv hV => hid (l_Pow V v q.num.natAbs n hv (Nat.le_trans sp.n (by omega)) (by omega) hV)
  have F2 := fun V v hv hV => hid (l_Pow V v q.den n hv (Nat.le_trans sp.d (by omega)) (by omega) hV)
  obtain ⟨e1, e2, e3⟩ := pow_parts q n
  have HOV := hid (fun h => pow_over (q := q) (n := n) h)
  have F3 := fun V v hv hV (h1 : nDigits (q.num.natAbs ^ n) ≤ 4000) (h2 : nDigits (q.den ^ n) ≤ 4000) => hid (f_Num V v (q ^ n) hv (by rw [e2]; exact Nat.le_trans (limbs_of_digits h1) (by omega)) (by rw [e3]; exact Nat.le_trans (limbs_of_digits h2) (by omega)) hV)
  obtain ⟨B, hB⟩ : ∃ B, outB (q ^ n) = B := ⟨_, rfl⟩
  obtain ⟨E, hE⟩ : ∃ E, outE (q ^ n) = E := ⟨_, rfl⟩
  rw [hB, hE] at F3 HOV ⊢
  clear hB hE
  have HL := hid hL
  obtain ⟨N1, D1, rfl, hn1, hd1⟩ := hp.ex
  obtain ⟨a1, c1', rfl, _⟩ := hn1.openI
  obtain ⟨a2, c2', rfl, _⟩ := hd1.openI
  obtain ⟨k1, hk1⟩ : ∃ k, (limbs q.num.natAbs).length = k := ⟨_, rfl⟩
  obtain ⟨k2, hk2⟩ : ∃ k, (limbs q.den).length = k := ⟨_, rfl⟩
  obtain ⟨m1, hm1⟩ : ∃ m, decide (q.num < 0) = m := ⟨_, rfl⟩
  rw [hk1, hk2, hm1] at hp ⊢
  rw [hk1] at hn1
  rw [hk2] at hd1
  rw [hm1] at e1
  have X1 := hid (Blk.new w #[.bool m1, .slice a1 k1 c1', .slice a2 k2 c2'] 110)
  have b1 := hid ((Below.refl w.heap.size w).alloc (Nat.le_refl _) (.cells #[.bool m1, .slice a1 k1 c1', .slice a2 k2 c2'] 110))
  have N2 := hid (hn1.call b1.out)
  have D2 := hid (hd1.call b1.out)
  have r0 := X1.out.cell 0
  have r1 := X1.out.cell 1
  have r2 := X1.out.cell 2
  have C1 := (b1.out.cell (cell_lt c1)).trans c1
  simp at r0 r1 r2
  have q0 : decide ((n : Int) < 0) = false := by simp
  have w0 : IntKind.u64.wrap (n : Int) = (n : Int) := IntWalk.u64_in _ ⟨by omega, by omega⟩
  have E1 := hid e1; have E2 := hid e2; have E3 := hid e3; have HN := hid hn
  clear hk1 hk2 hm1 hn1 hd1 hp hL sp e1 e2 e3 c1 hn
  go_enter Tryz.func108, Tryz.ntmps108
  go_wp2_with fail
  refine (F1 _ _ N2.out (HL.out.call b1.out)).out.mono ?_; rintro e w3 ⟨hr3, hb3⟩
  have y3 := hid (bnext b1.out hb3); have X3 := hid (X1.out.call hb3); have C3 := (hb3.cell (cell_lt C1)).trans C1; have D3 := hid (D2.out.call hb3)
  clear hb3 r0 r1 r2 C1
  have r0 := X3.out.cell 0
  have r1 := X3.out.cell 1
  have r2 := X3.out.cell 2
  simp at r0 r1 r2
  rcases hr3 with ⟨l3, v3, rfl, hv3⟩ | ⟨l3, rfl⟩
  · obtain ⟨a3, c3, rfl, _⟩ := hv3.openI
    obtain ⟨k3, hk3⟩ : ∃ k, (limbs (q.num.natAbs ^ n)).length = k := ⟨_, rfl⟩
    rw [hk3] at hv3 ⊢
    have V3 := hid hv3; have L3 := hid l3
    clear hk3 hv3 l3
    go_wp2_with fail
    refine (F2 _ _ D3.out (HL.out.call y3.out)).out.mono ?_; rintro e w4 ⟨hr4, hb4⟩
    have y4 := hid (bnext y3.out hb4); have X4 := hid (X3.out.call hb4); have C4 := (hb4.cell (cell_lt C3)).trans C3; have V4 := hid (V3.out.call hb4)
    clear hb4 r0 r1 r2 C3
    have r0 := X4.out.cell 0
    have r1 := X4.out.cell 1
    have r2 := X4.out.cell 2
    simp at r0 r1 r2
    rcases hr4 with ⟨l4, v4, rfl, hv4⟩ | ⟨l4, rfl⟩
    · obtain ⟨a4, c4, rfl, _⟩ := hv4.openI
      obtain ⟨k4, hk4⟩ : ∃ k, (limbs (q.den ^ n)).length = k := ⟨_, rfl⟩
      rw [hk4] at hv4 ⊢
      have W4 := hid hv4; have L4 := hid l4
      clear hk4 hv4 l4
      have M := hid (show IsQ .u64 w4 (.agg #[.bool (m1 && decide (n % 2 = 1)), .slice a3 k3 c3, .slice a4 k4 c4]) (q ^ n) from ⟨_, _, by rw [E1.out], by rw [E2.out]; exact V4.out, by rw [E3.out]; exact W4.out⟩)
      obtain ⟨Q, hQ⟩ : ∃ Q, q ^ n = Q := ⟨_, rfl⟩
      rw [hQ] at F3 M
      clear hQ HOV F1 F2
      have F4 := F3 _ _ M.out (HL.out.call y4.out) L3.out L4.out
      cases m1
      · simp only [Bool.false_and] at F4
        go_wp2_with fail
        refine F4.out.mono ?_; rintro e w5 ⟨rfl, hb5⟩
        have y5 := hid (bnext y4.out hb5); clear hb5
        go_wp2_with fail
        go_ret2
        exact ⟨rfl, y5.out⟩
      · simp only [Bool.true_and] at F4
        have e9 : ((n : Int) % 2 == 1) = decide (n % 2 = 1) := by
          rw [Bool.eq_iff_iff, beq_iff_eq, decide_eq_true_eq]; omega
        rw [← e9] at F4
        clear e9
        go_wp2_with fail
        refine F4.out.mono ?_; rintro e w5 ⟨rfl, hb5⟩
        have y5 := hid (bnext y4.out hb5); clear hb5
        go_wp2_with fail
        go_ret2
        exact ⟨rfl, y5.out⟩
    · have e7 := hid (HOV.out (.inr l4))
      clear l4
      go_wp2_with fail
      go_ret2
      exact ⟨by rw [e7.out.1, e7.out.2]; rfl, y4.out⟩
  · have e7 := hid (HOV.out (.inl l3))
    clear l3
    go_wp2_with fail
    refine (F2 _ _ D3.out (HL.out.call y3.out)).out.mono ?_; rintro e w4 ⟨hr4, hb4⟩
    have y4 := hid (bnext y3.out hb4)
    rcases hr4 with ⟨l4, v4, rfl, hv4⟩ | ⟨l4, rfl⟩
    · obtain ⟨a4, c4, rfl, _⟩ := hv4.openI
      obtain ⟨k4, hk4⟩ : ∃ k, (limbs (q.den ^ n)).length = k := ⟨_, rfl⟩
      rw [hk4]
      clear hk4 hv4 l4 hb4
      go_wp2_with fail
      go_ret2
      exact ⟨by rw [e7.out.1, e7.out.2]; rfl, y4.out⟩
    · clear l4 hb4
      go_wp2_with fail
      go_ret2
      exact ⟨by rw [e7.out.1, e7.out.2]; rfl, y4.out⟩

/-- A power's text and error. -/
def pwB (n : Nat) (s : ByteArray) : ByteArray := op1B (· ^ n) s
def pwE (n : Nat) (s : ByteArray) : Int := op1E (· ^ n) s

set_option maxRecDepth 100000 in
set_option maxHeartbeats 1000000 in
theorem q_Pow (w : World) (s : ByteArray) (n : Nat) (hs : s.size ≤ 1000000) (hn : n ≤ 9223372036854775807) (hL : Lay w) :
    Calls Tryz.prog 68 #[.string s, .int .i64 (n : Nat)] w fun e w' => e = .returned (.tuple #[.string (pwB n s), .int .i64 (pwE n s)]) ∧ Below w.heap.size w w' := by
  have HL := hid hL
  have b1 := hid ((Below.refl w.heap.size w).alloc (Nat.le_refl _) (.cells #[.int .i64 (n : Nat)] 3))
  have X1 := hid (Blk.new w #[.int .i64 (n : Nat)] 3)
  obtain ⟨g1, hg1⟩ : ∃ g, w.heap.size = g := ⟨_, rfl⟩
  obtain ⟨w1, hw1⟩ : ∃ w1, w.alloc (.cells #[.int .i64 (n : Nat)] 3) = w1 := ⟨_, rfl⟩
  have L1 := hid (HL.out.call b1.out)
  have b1' := b1
  rw [hw1] at b1 X1 L1
  rw [hg1] at X1
  have W1 := hid (q_with w1 s 108 #[.pointer (some ⟨g1, 0, none⟩)] (outB (vQ s ^ n)) (outE (vQ s ^ n)) hs L1.out (enters_of Tryz.func108 (by kernel_rfl) rfl)
    (fun W v hq hb hv hLW => q_Pow1 W v (vQ s) n g1 hv (sml_vQ hq) hn hLW ((X1.out.call hb).cell 0)))
  have e1 : wB (outB (vQ s ^ n)) s = pwB n s := rfl
  have e2 : wE (outE (vQ s ^ n)) s = pwE n s := rfl
  rw [e1, e2] at W1
  obtain ⟨B, hB⟩ : ∃ B, pwB n s = B := ⟨_, rfl⟩
  obtain ⟨E, hE⟩ : ∃ E, pwE n s = E := ⟨_, rfl⟩
  rw [hB, hE] at W1 ⊢
  have HW := hid hw1; have HG := hid hg1
  clear hB hE hs hL hn e1 e2 hw1 hg1 b1'
  go_enter Tryz.func68, Tryz.ntmps68
  go_wp2_with fail
  have hw1 := HW.out; have hg1 := HG.out
  rw [hw1, hg1]
  refine W1.out.mono ?_; rintro e w2 ⟨rfl, hb2⟩
  have y2 := hid (bnext b1.out hb2)
  clear hb2 hw1 hg1
  go_wp2_with fail
  go_ret2
  exact ⟨rfl, y2.out⟩
end Go.Proofs.YtikfgddgfddbaaaGreatDoor

/- Plain words: how many digits sums and products of rational numbers have; the factors of the masses and tails. -/
namespace Go.Proofs.YtikfgddgfddbaaaGreatDoor
open Go.RowKit
open Go.Lib (decDigits nDigits)
set_option linter.unusedVariables false
set_option linter.unusedSimpArgs false

/-- A rational number of few digits. -/
structure Dig (K : Nat) (q : Rat) : Prop where
  n : q.num.natAbs < 10 ^ K
  d : q.den < 10 ^ K

theorem Dig.up {K L : Nat} {q : Rat} (h : Dig K q) (hl : K ≤ L) : Dig L q := ⟨fit_up h.n hl, fit_up h.d hl⟩
theorem Dig.fits {K : Nat} {q : Rat} (h : Dig K q) (h0 : 0 < K) (hk : K ≤ 4000) : ¬ ovQ q := by
  unfold ovQ
  have h1 := nDigits_le h0 h.n
  have h2 := nDigits_le h0 h.d
  omega
theorem dig_mk {K : Nat} {z : Int} {d : Nat} (hd : 0 < d) (h1 : z.natAbs < 10 ^ K) (h2 : d < 10 ^ K) : Dig K (mkRat z d) := by
  refine ⟨?_, ?_⟩
  · rw [Rat.num_mkRat, if_neg (by omega)]
    exact Nat.lt_of_le_of_lt (Int.natAbs_ediv_le_natAbs _ _) h1
  · rw [Rat.den_mkRat, if_neg (by omega)]
    exact Nat.lt_of_le_of_lt (Nat.div_le_self _ _) h2
theorem dig_mul {K L : Nat} {p q : Rat} (hp : Dig K p) (hq : Dig L q) : Dig (K + L) (p * q) := by
  rw [← qmk_mul]
  unfold qmk
  exact dig_mk (Nat.mul_pos p.den_pos q.den_pos) (by rw [sgn_natAbs]; exact fit_mul hp.n hq.n) (fit_mul hp.d hq.d)
theorem dig_add {K L : Nat} {p q : Rat} (hp : Dig K p) (hq : Dig L q) : Dig (K + L + 1) (p + q) := by
  rw [q_add]
  refine dig_mk (Nat.mul_pos p.den_pos q.den_pos) ?_ (fit_up (fit_mul hp.d hq.d) (by omega))
  refine Nat.lt_of_le_of_lt (sgn_abs_le _ _ _ _) ?_
  have h1 := fit_mul hp.n hq.d
  have h2 := fit_mul hq.n hp.d
  rw [Nat.add_comm L K] at h2
  exact fit_add h1 h2
theorem dig_neg {K : Nat} {q : Rat} (h : Dig K q) : Dig K (-q) := ⟨by rw [Rat.neg_num, Int.natAbs_neg]; exact h.n, by rw [Rat.neg_den]; exact h.d⟩
theorem dig_sub {K L : Nat} {p q : Rat} (hp : Dig K p) (hq : Dig L q) : Dig (K + L + 1) (p - q) := by rw [Rat.sub_eq_add_neg]; exact dig_add hp (dig_neg hq)
theorem dig_inv {K : Nat} {q : Rat} (h0 : q ≠ 0) (h : Dig K q) : Dig K q⁻¹ := ⟨by rw [(inv_num h0).2.1]; exact h.d, by rw [(inv_num h0).2.2]; exact h.n⟩
theorem dig_one : Dig 1 (1 : Rat) := ⟨by decide, by decide⟩
theorem dig_pow {K : Nat} {q : Rat} (h : Dig K q) : ∀ n : Nat, Dig (K * n + 1) (q ^ n)
  | 0 => by rw [Rat.pow_zero]; exact dig_one.up (by omega)
  | n + 1 => by
    rw [Rat.pow_succ]
    exact (dig_mul (dig_pow h n) h).up (by rw [Nat.mul_succ]; omega)

/-- The text "1". -/
def t1 : ByteArray := ⟨#[49]⟩
theorem t1_tx : t1 = txQ 1 := by
  unfold t1 txQ txB
  rw [show (1 : Rat).num.natAbs = 1 from rfl, show (1 : Rat).den = 1 from rfl, dec_one]
  rfl
theorem fits_one : ¬ ovQ 1 := dig_one.fits (by omega) (by omega)
theorem qE_t1 : qE t1 = 0 := by rw [t1_tx]; exact qE_txQ fits_one
theorem vQ_t1 : vQ t1 = 1 := by rw [t1_tx, vQ_txQ]

theorem outB_fits {q : Rat} (h : ¬ ovQ q) : outB q = txQ q := if_neg h
theorem outE_fits {q : Rat} (h : ¬ ovQ q) : outE q = 0 := if_neg h

/-- What a ratio is: a number from 0 on, below 1, of at most 1000 digits. -/
theorem ratio_is {a : ByteArray} (h : gPE a = 0) : qE a = 0 ∧ 0 ≤ (vQ a).num ∧ (vQ a).num.natAbs < (vQ a).den ∧ Dig 1000 (vQ a) := by
  have h2 := gPE_ok h
  unfold gPE at h
  split at h
  · rename_i he; exact absurd h he
  rename_i he
  have he' : qE a = 0 := Decidable.not_not.1 he
  split at h
  · cases h
  rename_i hm
  split at h
  · cases h
  rename_i hl
  obtain ⟨e1, e2, l1, l2, e3, e4⟩ := parts_ok he' (fun h => hm (.inl h)) hl
  unfold eN at l1 l2
  obtain ⟨g1, g2, g3⟩ := vQ_ok he'
  have hmf : iM (cW a) = false := by
    have : ¬ iM (cW a) = true := fun h => hm (.inl h)
    simpa using this
  rw [iD_plain hmf] at g2
  refine ⟨he', ?_, by rw [g2, g3]; exact h2.2, ⟨by rw [g2]; exact l1, by rw [g3]; exact l2⟩⟩
  rw [hmf] at g1
  have := of_decide_eq_false g1
  omega

/-- The factors. -/
def fNot (A : Rat) : Rat := 1 - A
def fUnder (A : Rat) : Rat := 1 / (1 + A)
def fShare (A : Rat) : Rat := fNot A * fUnder A
theorem one_plus {A : Rat} (h : 0 ≤ A.num) : 1 + A ≠ 0 := by
  intro e
  have h1 : (0 : Rat) ≤ A := Rat.num_nonneg.1 h
  have h2 : (0 : Rat) ≤ 1 := by decide
  have h3 : (1 : Rat) ≤ 1 + A := by
    have := Rat.add_le_add_left (c := 1).2 h1
    rwa [Rat.add_zero] at this
  rw [e] at h3
  exact absurd h3 (by decide)
theorem dig_not {A : Rat} (h : Dig 1000 A) : Dig 1002 (fNot A) := (dig_sub dig_one h).up (by omega)
theorem dig_under {A : Rat} (h : Dig 1000 A) (h0 : 0 ≤ A.num) : Dig 1003 (fUnder A) := by
  unfold fUnder
  rw [Rat.div_def]
  exact (dig_mul dig_one (dig_inv (one_plus h0) (dig_add dig_one h))).up (by omega)
theorem dig_share {A : Rat} (h : Dig 1000 A) (h0 : 0 ≤ A.num) : Dig 2005 (fShare A) := (dig_mul (dig_not h) (dig_under h h0)).up (by omega)
end Go.Proofs.YtikfgddgfddbaaaGreatDoor
