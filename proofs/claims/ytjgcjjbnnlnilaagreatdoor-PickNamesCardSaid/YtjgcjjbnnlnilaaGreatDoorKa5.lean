/- Walks: the program's limbs: Pow. -/
import Derived.Test.YtjgcjjbnnlnilaaGreatDoorKa4
import Derived.WalkSmall
import Derived.Maps.Own
import Derived.Maps.OwnIn
import Derived.Sort.CutIn
import Derived.Sort.KeysCollected
import Derived.Shelf.SlIter.Nil
import Derived.Shelf.SortM.Plain
import Derived.Shelf.SortM.SortNone
import Derived.Ground.GgzProg
import Derived.Ground.SlgmProg
import Derived.Test.YtjgcjjbnnlnilaaGreatDoorProg
import Derived.Maps.StringElems
import Derived.Laws.IdiomStrings
import Derived.WalkSpells
namespace Go.Proofs.YtjgcjjbnnlnilaaGreatDoor
open Go.RowKit
open Go.Lib (decDigits nDigits)
set_option linter.unusedVariables false
set_option linter.unusedSimpArgs false

/-- The state of Pow's loop. -/
structure PowI (A sq out n : Nat) (fits : Bool) : Prop where
  eq : out * sq ^ n = A
  two : 2 ≤ sq
  n1 : 1 ≤ n
  small : nDigits out ≤ 4000
  fit : fits = false → 4000 < nDigits sq
  len : fits = true → (limbs sq).length ≤ 100000
  lim : (limbs sq).length ≤ 200000
  pos : 1 ≤ out

theorem PowI.start {a n : Nat} (ha : 2 ≤ a) (hn : 1 ≤ n) (hl : (limbs a).length ≤ 100000) : PowI (a ^ n) a 1 n true :=
  ⟨Nat.one_mul _, ha, hn, by rw [nDigits_one]; omega, fun h => by (cases h), fun _ => hl, by omega, Nat.le_refl _⟩
theorem PowI.sq_le {A sq out n : Nat} {fits : Bool} (h : PowI A sq out n fits) : out * sq ≤ A := by
  rw [← h.eq]
  refine Nat.mul_le_mul_left _ ?_
  have := Nat.pow_le_pow_right (n := sq) (by have := h.two; omega) h.n1
  rwa [Nat.pow_one] at this
theorem PowI.big {A sq out n : Nat} {fits : Bool} (h : PowI A sq out n fits) (hf : fits = false) : 4000 < nDigits A := by
  refine Nat.lt_of_lt_of_le (h.fit hf) (nDigits_mono ?_)
  exact Nat.le_trans (Nat.le_mul_of_pos_left _ h.pos) h.sq_le
theorem PowI.bigO {A sq out n : Nat} {fits : Bool} (h : PowI A sq out n fits) (hb : 4000 < nDigits (out * sq)) : 4000 < nDigits A :=
  Nat.lt_of_lt_of_le hb (nDigits_mono h.sq_le)
theorem PowI.done {A sq out n : Nat} {fits : Bool} (h : PowI A sq out n fits) (hn : n = 1) : out * sq = A := by
  rw [← h.eq, hn, Nat.pow_one]
theorem sq_len {sq : Nat} (h : (limbs sq).length ≤ 100000) : (limbs (sq * sq)).length ≤ 200000 := by
  have := limbs_mul h h
  omega
theorem PowI.odd {A sq out n : Nat} {fits : Bool} (h : PowI A sq out n fits) (hf : fits = true) (ho : n % 2 = 1) (hs : nDigits (out * sq) ≤ 4000) (h2 : 1 ≤ n / 2) : PowI A (sq * sq) (out * sq) (n / 2) (decide (nDigits (sq * sq) ≤ 4000)) := by
  have h4 := Nat.mul_le_mul h.two h.two
  refine ⟨?_, by omega, h2, hs, fun e => ?_, fun e => ?_, sq_len (h.len hf), Nat.mul_pos h.pos (by have := h.two; omega)⟩
  · rw [← h.eq, Nat.mul_assoc, ← Nat.pow_two, ← Nat.pow_mul]
    have : sq * sq ^ (2 * (n / 2)) = sq ^ n := by
      rw [← Nat.pow_succ']
      congr 1
      omega
    rw [this]
  · have := of_decide_eq_false e; omega
  · have := limbs_of_digits (of_decide_eq_true e); omega
theorem PowI.even {A sq out n : Nat} {fits : Bool} (h : PowI A sq out n fits) (hf : fits = true) (ho : n % 2 = 0) : PowI A (sq * sq) out (n / 2) (decide (nDigits (sq * sq) ≤ 4000)) := by
  have h4 := Nat.mul_le_mul h.two h.two
  have h1 := h.n1
  refine ⟨?_, by omega, by omega, h.small, fun e => ?_, fun e => ?_, sq_len (h.len hf), h.pos⟩
  · rw [← h.eq, ← Nat.pow_two, ← Nat.pow_mul]
    congr 2
    omega
  · have := of_decide_eq_false e; omega
  · have := limbs_of_digits (of_decide_eq_true e); omega

/-- What Pow returns. -/
def RetPowU (n : Nat) (e : Ending) (w' : World) : Prop :=
  (nDigits n ≤ 4000 ∧ ∃ v, e = .returned (.tuple #[v, .bool true]) ∧ IsN .u64 w' v n) ∨ (4000 < nDigits n ∧ e = .returned (.tuple #[.slice none 0 0, .bool false]))

theorem isN_oneU (w : World) : IsN .u64 (w.alloc (.cells #[.int .u64 1] 159)) (.slice (some ⟨w.heap.size, 0, none⟩) 1 1) 1 := by
  unfold IsN
  rw [limbs_one]
  exact Row.of_blk (b := w.heap.size) (n := 1) (c := 1) (cs := #[.int .u64 1]) (Blk.new w _ _) rfl (by unfold maxLen; omega) (fun i x hx => by simpa [ints] using hx) (Nat.le_refl _) (by unfold maxLen; omega)

theorem odd_test {n : Nat} (h : n < 18446744073709551616) : (bits BinOp.and IntKind.u64 (n : Int) 1 == 1) = decide (n % 2 = 1) := by
  rw [and_one_u64 _ (by omega) (by omega), Bool.eq_iff_iff, beq_iff_eq, decide_eq_true_eq]
  omega

set_option maxRecDepth 100000 in
set_option maxHeartbeats 1000000 in
theorem l_Pow_zero (w : World) (v : Value) (a : Nat) (ha : IsN .u64 w v a) : Calls Tryz.prog 151 #[v, .int .u64 0, .int .i64 4000] w fun e w' => RetPowU (a ^ 0) e w' ∧ Below w.heap.size w w' := by
  have H1 := hid (isN_oneU (w.alloc (.cells #[.int .i64 4000] 3)))
  go_enter Tryz.func151, Tryz.ntmps151
  go_wp2_with fail
  go_ret2
  refine ⟨.inl ⟨by rw [Nat.pow_zero, nDigits_one]; omega, _, rfl, by rw [Nat.pow_zero]; simpa using H1.out⟩, ((Below.refl _ _).alloc (Nat.le_refl _) _).alloc (by simp) _⟩

set_option maxRecDepth 100000 in
set_option maxHeartbeats 1000000 in
theorem l_Pow_small (w : World) (v : Value) (a n : Nat) (ha : IsN .u64 w v a) (hs : a ≤ 1) (hn : 0 < n) (hn2 : n < 18446744073709551616) : Calls Tryz.prog 151 #[v, .int .u64 n, .int .i64 4000] w fun e w' => RetPowU (a ^ n) e w' ∧ Below w.heap.size w w' := by
  have hpow := hid (show a ^ n = a ∧ nDigits a ≤ 4000 from by
    rcases (show a = 0 ∨ a = 1 by omega) with rfl | rfl
    · exact ⟨Nat.zero_pow hn, by rw [nDigits_zero]; omega⟩
    · exact ⟨Nat.one_pow _, by rw [nDigits_one]; omega⟩)
  have b0 := hid ((Below.refl w.heap.size w).alloc (Nat.le_refl _) (.cells #[.int .i64 4000] 3))
  have A0 := hid (ha.call b0.out)
  have q0 : ((n : Int) == 0) = false := by rw [beq_eq_false_iff_ne]; omega
  obtain ⟨k1, d1, rfl, _⟩ := ha.openI
  obtain ⟨len, hlen⟩ : ∃ k, (limbs a).length = k := ⟨_, rfl⟩
  rw [hlen] at A0 ⊢
  clear ha hlen
  rcases (show a = 0 ∨ a = 1 by omega) with rfl | rfl
  · have hz : isZ 0 = true := rfl
    clear hs hn hn2
    go_enter Tryz.func151, Tryz.ntmps151
    go_wp2_with fail
    refine (l_Zero _ _ _ A0.out).mono ?_; rintro e w1 ⟨rfl, rfl⟩
    rw [hz]
    go_wp2_with fail
    go_ret2
    exact ⟨.inl ⟨by rw [hpow.out.1]; exact hpow.out.2, _, rfl, by rw [hpow.out.1]; exact A0.out⟩, b0.out⟩
  · have hz : isZ 1 = false := rfl
    have ho : isO 1 = true := rfl
    clear hs hn hn2
    go_enter Tryz.func151, Tryz.ntmps151
    go_wp2_with fail
    refine (l_Zero _ _ _ A0.out).mono ?_; rintro e w1 ⟨rfl, rfl⟩
    rw [hz]
    go_wp2_with fail
    refine (l_One _ _ _ A0.out).mono ?_; rintro e w1 ⟨rfl, rfl⟩
    rw [ho]
    go_wp2_with fail
    go_ret2
    exact ⟨.inl ⟨by rw [hpow.out.1]; exact hpow.out.2, _, rfl, by rw [hpow.out.1]; exact A0.out⟩, b0.out⟩

set_option maxRecDepth 100000 in
set_option maxHeartbeats 4000000 in
theorem l_Pow_big (w : World) (v : Value) (a N : Nat) (ha : IsN .u64 w v a) (hs : 2 ≤ a) (hl : (limbs a).length ≤ 100000) (hn : 0 < N) (hn2 : N < 18446744073709551616) (hL : Lay w) : Calls Tryz.prog 151 #[v, .int .u64 N, .int .i64 4000] w fun e w' => RetPowU (a ^ N) e w' ∧ Below w.heap.size w w' := by
  have b0 := hid ((Below.refl w.heap.size w).alloc (Nat.le_refl _) (.cells #[.int .i64 4000] 3))
  have A0 := hid (ha.call b0.out); have HA := hid ha
  have q0 : ((N : Int) == 0) = false := by rw [beq_eq_false_iff_ne]; omega
  obtain ⟨k1, d1, rfl, _⟩ := ha.openI
  obtain ⟨len, hlen⟩ : ∃ k, (limbs a).length = k := ⟨_, rfl⟩
  have PI := hid (PowI.start (n := N) hs hn hl)
  rw [hlen] at A0 HA ⊢
  have hz : isZ a = false := decide_eq_false (by omega)
  have ho : isO a = false := decide_eq_false (by omega)
  have HN2 := hid hn2; have HL := hid hL; have HLL := hid hL.lt
  obtain ⟨R, hR⟩ : ∃ R, a ^ N = R := ⟨_, rfl⟩
  rw [hR] at PI ⊢
  clear ha hlen hs hl hn hn2 hL hR
  go_enter Tryz.func151, Tryz.ntmps151
  go_wp2_with fail
  refine (l_Zero _ _ _ A0.out).mono ?_; rintro e w1 ⟨rfl, rfl⟩
  rw [hz]
  clear hz
  go_wp2_with fail
  refine (l_One _ _ _ A0.out).mono ?_; rintro e w1 ⟨rfl, rfl⟩
  rw [ho]
  clear ho
  go_wp2_with fail
  obtain ⟨W0, hW0⟩ : ∃ W0, ((((w.alloc (.cells #[.int .i64 4000] 3)).alloc (.cells #[.int .u64 1] 159)).alloc (.cells #[.slice k1 len d1] 122)).alloc (.cells #[.bool true] 4)) = W0 := ⟨_, rfl⟩
  have b4 : Below w.heap.size w W0 := by rw [← hW0]; exact ((((Below.refl _ _).alloc (Nat.le_refl _) _).alloc (by simp) _).alloc (by simp <;> omega) _).alloc (by simp <;> omega) _
  have x0 : Blk W0 w.heap.size #[.int .i64 4000] 3 := by rw [← hW0]; exact (((Blk.new w _ _).alloc _).alloc _).alloc _
  have x1 : Blk W0 (w.heap.size + 1) #[.int .u64 1] 159 := by rw [← hW0]; exact ((Blk.made _ _ _ (by simp)).alloc _).alloc _
  have x2 : Blk W0 (w.heap.size + 1 + 1) #[.slice k1 len d1] 122 := by rw [← hW0]; exact (Blk.made _ _ _ (by simp)).alloc _
  have x3 : Blk W0 (w.heap.size + 1 + 1 + 1) #[.bool true] 4 := by rw [← hW0]; exact Blk.made _ _ _ (by simp)
  have o0 : IsN .u64 W0 (.slice (some ⟨w.heap.size + 1, 0, none⟩) 1 1) 1 := by
    unfold IsN
    rw [limbs_one]
    exact Row.of_blk (n := 1) (c := 1) x1 rfl (by unfold maxLen; omega) (fun i x hx => by simpa [ints] using hx) (Nat.le_refl _) (by unfold maxLen; omega)
  have P0 : PowS W0 (w.heap.size + 1 + 1) (w.heap.size + 1 + 1 + 1) w.heap.size a true := ⟨⟨_, _, _, x2, HA.out.call b4⟩, x3, x0, by omega, by omega, by omega⟩
  rw [hW0]
  have OO := hid o0; have PP := hid P0; have BB := hid b4
  obtain ⟨bs, hbs⟩ : ∃ b, w.heap.size + 1 + 1 = b := ⟨_, rfl⟩
  rw [hbs] at PP ⊢
  obtain ⟨bf, hbf⟩ : ∃ b, bs + 1 = b := ⟨_, rfl⟩
  rw [hbf] at PP ⊢
  have HBS := hid (show w.heap.size ≤ bs by omega); have HBF := hid (show w.heap.size ≤ bf by omega)
  have e159 : ∀ args w, (callFunc 182 args).run Tryz.prog w = .ok (.enter 182 args) w := enters_of Tryz.func182 (by kernel_rfl) rfl
  clear b4 x0 x1 x2 x3 o0 P0 hW0 hbs hbf A0 b0 q0
  go_loopw [1, 8] (fun nn oo wr => ∃ (n out sq : Nat) (fits : Bool) (a1 : Option Addr) (l1 c1 : Nat), nn = .int .u64 (n : Nat) ∧ oo = .slice a1 l1 c1 ∧ Hid (PowI R sq out n fits) ∧ Hid (IsN .u64 wr (.slice a1 l1 c1) out) ∧ Hid (PowS wr bs bf w.heap.size sq fits) ∧ Hid (Below w.heap.size w wr) ∧ n < 18446744073709551616) (fun nn oo wr => (intOf nn).toNat)
  case atStart => exact ⟨N, 1, a, true, _, _, _, rfl, rfl, PI.out, OO.out, PP.out, BB.out, HN2.out⟩
  case round =>
    obtain ⟨n, out, sq, fits, a1, l1, c1, rfl, rfl, hI, hO, hS, hB, hn⟩ := hrel
    obtain ⟨a2, l2, c2, h1, h2⟩ := hS.out.sq
    have HL1 := hid (HL.out.call hB.out)
    have HO := hid h1; have HV := hid h2; have HF := hid hS.out.fits; have HT := hid hS.out.lim
    have k0 : wr.cell? ⟨bs, 0, none⟩ = some (.slice a2 l2 c2) := h1.cell 0
    have k1 : wr.cell? ⟨bf, 0, none⟩ = some (.bool fits) := hS.out.fits.cell 0
    have k2 : wr.cell? ⟨w.heap.size, 0, none⟩ = some (.int .i64 4000) := hS.out.lim.cell 0
    have HN := hid hn; have HN1 := hid hI.out.n1
    have HLO := hid (limbs_of_digits hI.out.small); have HLS := hid hI.out.lim
    clear h1 h2
    by_cases ho : n % 2 = 1
    · have q1 : (bits BinOp.and IntKind.u64 (n : Int) 1 == 1) = true := by rw [odd_test hn]; exact decide_eq_true ho
      have HO1 := hid ho
      clear ho hn
      go_wp2_with fail
      refine (l_Mul _ _ _ out sq hO.out HV.out (by have := HLO.out; omega) (by have := HLS.out; omega)).mono ?_; rintro e w1 ⟨⟨v1, rfl, hv1⟩, hb1⟩
      have HLM := hid (limbs_mul HLO.out HLS.out)
      obtain ⟨a3, c3, rfl, _⟩ := hv1.openI
      obtain ⟨l3, hl3⟩ : ∃ l, (limbs (out * sq)).length = l := ⟨_, rfl⟩
      rw [hl3] at hv1 ⊢
      have V1 := hid hv1; have F1 := hid (HF.out.call hb1); have T1 := hid (HT.out.call hb1); have B1 := hid (bnext hB.out hb1)
      have S1 : Hid (PowS w1 bs bf w.heap.size sq fits) := ⟨⟨_, _, _, HO.out.call hb1, HV.out.call hb1⟩, F1.out, T1.out, hS.out.n1, hS.out.n2, hS.out.n3⟩
      have m1 : w1.cell? ⟨bf, 0, none⟩ = some (.bool fits) := F1.out.cell 0
      have m2 : w1.cell? ⟨w.heap.size, 0, none⟩ = some (.int .i64 4000) := T1.out.cell 0
      have L1 := hid (HL1.out.call hb1); have B1x := hid hb1
      clear hb1 hv1 k0 k1 k2 hl3
      cases fits
      · go_wp2_with fail
        go_quiet (fail)
        go_wp2_with fail
        go_ret2
        exact ⟨.inr ⟨hI.out.big rfl, rfl⟩, below_drewN B1.out _⟩
      · go_wp2_with fail
        go_region_held3 (fun w' => w'.cell? ⟨bf, 0, none⟩ = some (.bool true) ∧ w'.cell? ⟨w.heap.size, 0, none⟩ = some (.int .i64 4000))
          (first | exact ⟨m1, m2⟩ | exact ⟨F2.out.cell 0, T2.out.cell 0⟩)
          (first
            | (go_at_call 148; refine (l_Digits _ _ (out * sq) (V1.out.call (Below.refl _ _).drew) (L1.out.call (Below.refl _ _).drew) (by have := HLM.out; omega)).mono ?_; rintro e w2 ⟨rfl, hb2⟩; have B2 := hid (show Below w1.heap.size w1 w2 from (Below.refl _ _).drew.trans hb2); have F2 := hid (F1.out.call B2.out); have T2 := hid (T1.out.call B2.out)))
        have S2 : Hid (PowS w2 bs bf w.heap.size sq true) := ⟨⟨_, _, _, (HO.out.call B1x.out).call B2.out, (HV.out.call B1x.out).call B2.out⟩, F2.out, T2.out, hS.out.n1, hS.out.n2, hS.out.n3⟩
        have V2 := hid (V1.out.call B2.out); have L2 := hid (L1.out.call B2.out); have BB2 := hid (bnext B1.out B2.out)
        clear m1 m2
        by_cases hd : 4000 < nDigits (out * sq)
        · have q2 : decide ((4000 : Int) < (nDigits (out * sq) : Nat)) = true := by simp; omega
          have HD := hid hd
          rw [q2]
          clear hd q2
          go_wp2_with fail
          go_ret2
          exact ⟨.inr ⟨hI.out.bigO HD.out, rfl⟩, BB2.out⟩
        · have q2 : decide ((4000 : Int) < (nDigits (out * sq) : Nat)) = false := by simp; omega
          have HD := hid (show nDigits (out * sq) ≤ 4000 by omega)
          rw [q2]
          clear hd q2
          have m1 : w2.cell? ⟨bf, 0, none⟩ = some (.bool true) := F2.out.cell 0
          by_cases h1 : n = 1
          · have HD1 := hid (hI.out.done h1)
            subst h1
            go_wp2_with fail
            go_ret2
            exact ⟨.inl ⟨by rw [← HD1.out]; exact HD.out, _, rfl, by rw [← HD1.out]; exact V2.out⟩, BB2.out⟩
          · have h2 : 1 ≤ n / 2 := by have := HO1.out; omega
            have HN2' := hid h2
            have q3 : ((n : Int) / 2 == 0) = false := by rw [beq_eq_false_iff_ne]; omega
            have HI2 := hid (hI.out.odd rfl HO1.out HD.out h2)
            clear h1 h2
            go_wp2_with fail
            refine (l_Pow1 _ bs bf w.heap.size sq w.heap.size true S2.out HBS.out HBF.out BB2.out.size (hI.out.len rfl) L2.out HLL.out).mono ?_; rintro e w5 ⟨⟨v5, rfl⟩, hp5, hk5, hb5⟩
            have P5 := hid hp5; have O5 := hid (hk5 _ _ _ V2.out); have B5 := hid (BB2.out.trans hb5)
            clear hp5 hk5 hb5
            go_wp2_with fail
            go_roundw
            case rel => exact ⟨n / 2, out * sq, sq * sq, _, _, _, _, by rw [show ((n : Int) / 2) = ((n / 2 : Nat) : Int) by omega], rfl, HI2, O5, P5, B5, by have := HN.out; omega⟩
            case measure => simp [intOf] <;> (have := HN1.out; omega)
    · have q1 : (bits BinOp.and IntKind.u64 (n : Int) 1 == 1) = false := by rw [odd_test hn]; exact decide_eq_false ho
      have h0 : n % 2 = 0 := by omega
      have h2 : 1 ≤ n / 2 := by have := HN1.out; omega
      have q3 : ((n : Int) / 2 == 0) = false := by rw [beq_eq_false_iff_ne]; omega
      have H0 := hid h0
      clear ho hn h0 h2
      cases fits
      · go_wp2_with fail
        go_ret2
        exact ⟨.inr ⟨hI.out.big rfl, rfl⟩, hB.out⟩
      · have HI2 := hid (hI.out.even rfl H0.out)
        go_wp2_with fail
        refine (l_Pow1 _ bs bf w.heap.size sq w.heap.size true hS.out HBS.out HBF.out hB.out.size (hI.out.len rfl) HL1.out HLL.out).mono ?_; rintro e w5 ⟨⟨v5, rfl⟩, hp5, hk5, hb5⟩
        have P5 := hid hp5; have O5 := hid (hk5 _ _ _ hO.out); have B5 := hid (hB.out.trans hb5)
        clear hp5 hk5 hb5
        go_wp2_with fail
        go_roundw
        case rel => exact ⟨n / 2, out, sq * sq, _, _, _, _, by rw [show ((n : Int) / 2) = ((n / 2 : Nat) : Int) by omega], rfl, HI2, O5, P5, B5, by have := HN.out; omega⟩
        case measure => simp [intOf] <;> (have := HN1.out; omega)

theorem l_Pow (w : World) (v : Value) (a n : Nat) (ha : IsN .u64 w v a) (hl : (limbs a).length ≤ 100000) (hn2 : n < 18446744073709551616) (hL : Lay w) : Calls Tryz.prog 151 #[v, .int .u64 n, .int .i64 4000] w fun e w' => RetPowU (a ^ n) e w' ∧ Below w.heap.size w w' := by
  rcases Nat.eq_zero_or_pos n with rfl | hn
  · exact l_Pow_zero w v a ha
  · by_cases h : a ≤ 1
    · exact l_Pow_small w v a n ha h hn hn2
    · exact l_Pow_big w v a n ha (by omega) hl hn hn2 hL
end Go.Proofs.YtjgcjjbnnlnilaaGreatDoor

/- Walks: nat.Pow, geom.power. -/
namespace Go.Proofs.YtjgcjjbnnlnilaaGreatDoor
open Go.RowKit
open Go.Lib (decDigits nDigits)
set_option linter.unusedVariables false
set_option linter.unusedSimpArgs false

set_option maxRecDepth 100000 in
set_option maxHeartbeats 1000000 in
theorem n_Pow_ok (w : World) (s : ByteArray) (n : Nat) (hs : errN s.data.toList = 0) (hn : n ≤ 9223372036854775807) (hd : nDigits (bN s ^ n) ≤ 4000) (hL : Lay w) :
    Calls Tryz.prog 108 #[.string s, .int .i64 n] w fun e w' => e = .returned (.tuple #[.string (numB (bN s ^ n)), .int .i64 0]) ∧ Below w.heap.size w w' := by
  obtain ⟨d1, d2, d3⟩ := errN_dig hs
  have HC := fun V => hid (n_Check V s (by omega))
  rw [hs] at HC
  have HP := fun V => hid (l_Parse V s d1 (by omega))
  have hdv : dv s.data.toList = bN s := rfl
  rw [hdv] at HP
  have HW := fun V v hv hL => hid (l_Pow V v (bN s) n hv (by omega) (by omega) hL)
  have HR := fun V v hv hL => hid (n_result V v (bN s ^ n) hv (by have := limbs_of_digits hd; omega) hL)
  have e1 : resB (bN s ^ n) = numB (bN s ^ n) := by rw [resB, if_neg (by omega)]
  have e2 : resE (bN s ^ n) = 0 := by rw [resE, if_neg (by omega)]
  rw [e1, e2] at HR
  obtain ⟨R, hR⟩ : ∃ R, bN s ^ n = R := ⟨_, rfl⟩
  rw [hR] at HW HR hd ⊢
  have HD := hid hd; have HL := hid hL
  have hn0 : (0 : Int) ≤ (n : Int) := by omega
  have hn1 : (n : Int) ≤ 9223372036854775807 := by omega
  have q0 : decide ((n : Int) < 0) = false := by simp
  clear hs hn d1 d2 d3 hdv e1 e2 hR hd hL
  go_enter Tryz.func108, Tryz.ntmps108
  go_wp2_with fail
  refine (HC _).out.mono ?_; rintro e w1 ⟨rfl, hb1⟩
  have b1 := hid hb1; clear hb1
  go_wp2_with fail
  refine (HP _).out.mono ?_; rintro e w2 ⟨⟨v2, rfl, hv2⟩, hb2⟩
  have b2 := hid (bnext b1.out hb2); have V2 := hid hv2; clear hb2 hv2
  go_wp2_with fail
  refine (HW _ _ V2.out (HL.out.call b2.out)).out.mono ?_
  rintro e w3 ⟨h3, hb3⟩
  rcases h3 with ⟨-, v3, rfl, hv3⟩ | ⟨h3, -⟩
  · have b3 := hid (bnext b2.out hb3); have V3 := hid hv3; clear hb3 hv3
    go_wp2_with fail
    refine (HR _ _ V3.out (HL.out.call b3.out)).out.mono ?_; rintro e w4 ⟨rfl, hb4⟩
    have b4 := hid (bnext b3.out hb4); clear hb4
    go_wp2_with fail
    go_ret2
    exact ⟨rfl, b4.out⟩
  · exact absurd h3 (by have := HD.out; omega)

theorem two_digits {n : Nat} (h : n ≤ 1000) : nDigits (2 ^ n) ≤ 4000 := by
  have h1 : 2 ^ n < 10 ^ (n + 1) := by
    have h2 : 2 ^ n ≤ 10 ^ n := Nat.pow_le_pow_left (by omega) n
    have h3 : 10 ^ n < 10 ^ (n + 1) := Nat.pow_lt_pow_right (by omega) (by omega)
    omega
  exact Nat.le_trans (nDigits_le (Nat.succ_pos n) h1) (by omega)

theorem bN_two : bN ⟨#[50]⟩ = 2 := by decide
theorem errN_two : errN (⟨#[50]⟩ : ByteArray).data.toList = 0 := by decide
end Go.Proofs.YtjgcjjbnnlnilaaGreatDoor

/- Plain words: the law of pick: the cells of each index, those that do not decide; what a factor changes: nothing. -/
namespace Go.Proofs.YtjgcjjbnnlnilaaGreatDoor
open Go.RowKit
set_option linter.unusedVariables false

/-- The cells of the first i indexes. -/
def lwS (ws : List Nat) (t : Nat) : Nat → Nat
  | 0 => 0
  | i + 1 => lwS ws t i + cnt ws t i

theorem cntF_le {ws : List Nat} (t : Nat) {i : Nat} (h : 0 < ws.sum) : cntF ws t i ≤ t := by
  have hp := pre_sum ws i
  have h1 : pre ws i * t ≤ ws.sum * t := Nat.mul_le_mul_right _ hp
  have h2 : pre ws i * t / ws.sum ≤ t := Nat.div_le_of_le_mul h1
  unfold cntF
  by_cases h0 : pre ws i * t % ws.sum = 0
  · rw [if_neg (by simpa using h0)]; exact h2
  · rw [if_pos h0]
    rcases Nat.lt_or_ge (pre ws i * t / ws.sum) t with h3 | h3
    · exact h3
    · exfalso
      have h4 := Nat.div_add_mod (pre ws i * t) ws.sum
      have h5 : ws.sum * t ≤ ws.sum * (pre ws i * t / ws.sum) := Nat.mul_le_mul_left _ h3
      omega

theorem cntF_mono (ws : List Nat) (t i : Nat) (h : 0 < ws.sum) : cntF ws t i ≤ cntF ws t (i + 1) := by
  have hp : pre ws i * t ≤ pre ws (i + 1) * t := Nat.mul_le_mul_right _ (pre_le ws i 1)
  have h1 := Nat.div_le_div_right (c := ws.sum) hp
  unfold cntF
  by_cases h2 : pre ws (i + 1) * t % ws.sum = 0
  · by_cases h3 : pre ws i * t % ws.sum = 0
    · simp only [h2, h3, ne_eq, not_true_eq_false, if_false]; omega
    · simp only [h2, h3, ne_eq, not_true_eq_false, not_false_eq_true, if_false, if_true]
      rcases Nat.lt_or_ge (pre ws i * t / ws.sum) (pre ws (i + 1) * t / ws.sum) with h4 | h4
      · omega
      · exfalso
        have e1 := Nat.div_add_mod (pre ws i * t) ws.sum
        have e2 := Nat.div_add_mod (pre ws (i + 1) * t) ws.sum
        have e3 : ws.sum * (pre ws (i + 1) * t / ws.sum) ≤ ws.sum * (pre ws i * t / ws.sum) := Nat.mul_le_mul_left _ h4
        omega
  · simp only [h2, ne_eq, not_false_eq_true, if_true]
    split <;> omega

theorem cntE_le (ws : List Nat) (t i : Nat) : cntE ws t i ≤ cntF ws t (i + 1) := by unfold cntE cntF; omega

theorem lwS_le (ws : List Nat) (t : Nat) (h : 0 < ws.sum) : ∀ i, lwS ws t i ≤ cntF ws t i
  | 0 => Nat.zero_le _
  | i + 1 => by
    have h1 := lwS_le ws t h i
    have h2 := cntF_mono ws t i h
    have h3 := cntE_le ws t i
    unfold lwS cnt
    omega

/-- What is left of t suffices for the next index. -/
theorem cnt_le (ws : List Nat) (t i : Nat) (h : 0 < ws.sum) : cnt ws t i ≤ t - lwS ws t i := by
  have h1 := lwS_le ws t h (i + 1)
  have h2 := cntF_le t h (i := i + 1)
  unfold lwS at h1
  omega
theorem lwS_fit (ws : List Nat) (t i : Nat) (h : 0 < ws.sum) : lwS ws t i ≤ t := Nat.le_trans (lwS_le ws t h i) (cntF_le t h)
end Go.Proofs.YtjgcjjbnnlnilaaGreatDoor

/- Walks: pick.less, rat.Make, nat.Pow on numerals. -/
namespace Go.Proofs.YtjgcjjbnnlnilaaGreatDoor
open Go.RowKit Go.Shelf
open Go.Lib (decDigits nDigits)
set_option linter.unusedVariables false
set_option linter.unusedSimpArgs false

set_option maxRecDepth 100000 in
set_option maxHeartbeats 1000000 in
theorem pk_less (w : World) (x y : Nat) (hx : nDigits x ≤ 4000) (hy : nDigits y ≤ 4000) (h : y ≤ x) (hL : Lay w) :
    Calls Tryz.prog 109 #[.string (numB x), .string (numB y)] w fun e w' => e = .returned (.string (numB (x - y))) ∧ Below w.heap.size w w' := by
  have h2 := n_Sub w (numB x) (numB y) (numB_sz hx) (numB_sz hy) hL
  have h3 : ¬ 4000 < nDigits (x - y) := by have := nDigits_mono (show x - y ≤ x by omega); omega
  have e1 : pairB (subB (bN (numB x)) (bN (numB y))) (numB x) (numB y) = numB (x - y) := by
    rw [bN_num, bN_num, pairB, if_pos ⟨errN_numB hx, errN_numB hy⟩, subB, if_neg (by omega), resB, if_neg h3]
  have e2 : pairE (subE (bN (numB x)) (bN (numB y))) (numB x) (numB y) = 0 := by
    rw [bN_num, bN_num, pairE, if_pos (errN_numB hx), if_pos (errN_numB hy), subE, if_neg (by omega), resE, if_neg h3]
  rw [e1, e2] at h2
  have P := hid h2
  generalize numB x = A at *
  generalize numB y = B at *
  generalize numB (x - y) = C at *
  clear h2 h3 e1 e2 hx hy h hL
  go_enter Tryz.func109, Tryz.ntmps109
  go_wp2_with fail
  refine P.out.mono ?_; rintro e w1 ⟨rfl, hb1⟩
  go_wp2_with fail
  go_ret
  exact ⟨rfl, hb1⟩

/-- A share of cells, as a text. -/
def shB (m t : Nat) : ByteArray := outB (qmk false m t)

theorem pk_make (w : World) (m t : Nat) (hm : nDigits m ≤ 4000) (ht : nDigits t ≤ 4000) (h0 : t ≠ 0) (hL : Lay w) :
    Calls Tryz.prog 64 #[.string (numB m), .string (numB t)] w fun e w' => e = .returned (.tuple #[.string (shB m t), .int .i64 (outE (qmk false m t))]) ∧ Below w.heap.size w w' := by
  have h := q_Make w (numB m) (numB t) (numB_sz hm) (numB_sz ht) hL
  have e := mk_num hm ht h0
  rwa [e.1, e.2] at h

theorem pk_pow2 (w : World) (n : Nat) (hn : n ≤ 256) (hL : Lay w) :
    Calls Tryz.prog 108 #[.string ⟨#[50]⟩, .int .i64 (n : Nat)] w fun e w' => e = .returned (.tuple #[.string (numB (2 ^ n)), .int .i64 0]) ∧ Below w.heap.size w w' := by
  have e2 : (⟨#[50]⟩ : ByteArray) = numB 2 := by unfold numB; rw [decDigits_small (by omega)]; rfl
  have hd := two_nd (u := n) (by omega)
  have h := n_Pow_ok w (numB 2) n (errN_numB (by rw [Go.Lib.nDigits_small (by omega)]; omega)) (by omega) (by rw [bN_num]; omega) hL
  rw [bN_num] at h
  rw [e2]
  exact h
end Go.Proofs.YtjgcjjbnnlnilaaGreatDoor

/- Walks: kit.Same at masses. -/
namespace Go.Proofs.YtjgcjjbnnlnilaaGreatDoor
open Go.RowKit Go.Shelf
open Go.Lib (decDigits nDigits)
set_option linter.unusedVariables false
set_option linter.unusedSimpArgs false

/-- A slice of masses (a key, a probability). -/
structure MRow (w : World) (v : Value) (L : List (ByteArray × ByteArray)) : Prop where
  ex : ∃ a c, v = .slice a L.length c ∧ L.length ≤ c ∧ c ≤ 9223372036854775807 ∧ ∀ (i : Nat) (x : ByteArray × ByteArray), L[i]? = some x → ∃ g o, a = some ⟨g, o, none⟩ ∧ g < w.heap.size ∧ w.cell? ⟨g, o + 2 * i, none⟩ = some (.string x.1) ∧ w.cell? ⟨g, o + 2 * i + 1, none⟩ = some (.string x.2)
theorem MRow.call {w w' : World} {v : Value} {L : List (ByteArray × ByteArray)} (h : MRow w v L) (hb : Below w.heap.size w w') : MRow w' v L := by
  obtain ⟨a, c, rfl, h1, h2, h3⟩ := h.ex
  refine ⟨a, c, rfl, h1, h2, fun i x hx => ?_⟩
  obtain ⟨g, o, rfl, hg, k1, k2⟩ := h3 i x hx
  exact ⟨g, o, rfl, Nat.lt_of_lt_of_le hg hb.size, (hb.cell (p := ⟨g, o + 2 * i, none⟩) hg).trans k1, (hb.cell (p := ⟨g, o + 2 * i + 1, none⟩) hg).trans k2⟩
theorem MRow.nil (w : World) : MRow w (.slice none 0 0) [] := ⟨none, 0, rfl, Nat.le_refl _, by omega, fun i x h => by simp at h⟩

theorem ne_tl {x y : ByteArray} (h : ¬ x = y) : ¬ x.toList = y.toList := fun e => h (by
  rw [Lib.toList_data, Lib.toList_data] at e
  exact ba_ext e)

set_option maxRecDepth 100000 in
set_option maxHeartbeats 2000000 in
theorem k_SameM (w : World) (v u : Value) (L M : List (ByteArray × ByteArray)) (hv : MRow w v L) (hu : MRow w u M) :
    Calls Tryz.prog 16 #[v, u] w fun e w' => e = .returned (.bool (decide (L = M))) ∧ Below w.heap.size w w' := by
  obtain ⟨a, c, rfl, h1, h2, h3⟩ := hv.ex
  obtain ⟨a', c', rfl, h1', h2', h3'⟩ := hu.ex
  obtain ⟨n, hn⟩ : ∃ n, L.length = n := ⟨_, rfl⟩
  obtain ⟨m, hm⟩ : ∃ n, M.length = n := ⟨_, rfl⟩
  rw [hn] at h1 ⊢
  rw [hm] at h1' ⊢
  have H3 := hid h3; have H3' := hid h3'; have HN := hid hn; have HM := hid hm
  clear hv hu h3 h3'
  by_cases hnm : n = m
  · subst hnm
    have q0 : ((n : Int) != (n : Int)) = false := by simp
    clear hn hm
    go_enter Tryz.func16, Tryz.ntmps16
    go_wp2_with fail
    go_loopw [5] (fun ii wr => ∃ i : Nat, ii = .int .i64 (i : Nat) ∧ i ≤ n ∧ Hid (∀ j, j < i → L[j]? = M[j]?) ∧ Hid (Below w.heap.size w wr)) (fun ii wr => n - (intOf ii).toNat)
    case atStart => exact ⟨0, rfl, Nat.zero_le _, fun j hj => absurd hj (by omega), Below.refl _ _⟩
    case round =>
      obtain ⟨i, rfl, hi, hI, hB⟩ := hrel
      by_cases hlt : i < n
      · obtain ⟨x, hx⟩ : ∃ x, L[i]? = some x := ⟨_, List.getElem?_eq_getElem (by rw [HN.out]; exact hlt)⟩
        obtain ⟨y, hy⟩ : ∃ x, M[i]? = some x := ⟨_, List.getElem?_eq_getElem (by rw [HM.out]; exact hlt)⟩
        obtain ⟨g, o, rfl, hg, k1, k2⟩ := H3.out i x hx
        obtain ⟨g', o', rfl, hg', k1', k2'⟩ := H3'.out i y hy
        obtain ⟨x1, x2⟩ := x
        obtain ⟨y1, y2⟩ := y
        have HX := hid hx; have HY := hid hy
        have m1 := (hB.out.cell (p := ⟨g, o + 2 * i, none⟩) hg).trans k1
        have m2 := (hB.out.cell (p := ⟨g, o + 2 * i + 1, none⟩) hg).trans k2
        have m3 := (hB.out.cell (p := ⟨g', o' + 2 * i, none⟩) hg').trans k1'
        have m4 := (hB.out.cell (p := ⟨g', o' + 2 * i + 1, none⟩) hg').trans k2'
        dsimp only at m1 m2 m3 m4
        rw [Nat.mul_comm 2 i] at m1 m2 m3 m4
        have b1 : (0 : Int) ≤ (i : Int) := by omega
        have b2 : (i : Int) < (n : Int) := by omega
        have wi : IntKind.i64.wrap ((i : Int) + 1) = (i : Int) + 1 := by rw [IntWalk.i64_in _ ⟨by omega, by omega⟩]
        clear k1 k2 k1' k2' hx hy hg hg'
        by_cases he1 : x1 = y1
        · subst he1
          by_cases he2 : x2 = y2
          · subst he2
            go_wp2_with fail
            refine held_plain [0, 1, 2, 3, 4, 5, 6, 7, 8] 0 (fun w' => w'.cell? ⟨g, o + i * 2, none⟩ = some (.string x1) ∧ w'.cell? ⟨g, o + i * 2 + 1, none⟩ = some (.string x2) ∧ w'.cell? ⟨g', o' + i * 2, none⟩ = some (.string x1) ∧ w'.cell? ⟨g', o' + i * 2 + 1, none⟩ = some (.string x2)) (by kernel_rfl) (by kernel_rfl) (by kernel_rfl) (by kernel_rfl) ⟨m1, m2, m3, m4⟩ ?_
            iterate 9
              refine ⟨_, rfl, ?_⟩
              apply Exists.intro
              refine ⟨.inl ⟨by rfl, ?_⟩, ?_⟩
              · (intro W' hW'; obtain ⟨q1, q2, q3, q4⟩ := hW'; go_simp; try (with_reducible rfl))
              (dsimp only [Act.put]; try simp only [List.setIfInBounds_toArray, List.set_cons_zero, List.set_cons_succ])
            refine wpAnyH_done (by kernel_rfl) ?_ _
            simp only [Only]
            go_wp2_with fail
            go_roundw
            case rel => exact ⟨i + 1, rfl, by omega, fun j hj => by
              rcases Nat.lt_or_ge j i with h | h
              · exact hI.out j h
              · obtain rfl : j = i := by omega
                rw [HX.out, HY.out], hB.out.drew⟩
            case measure => simp [intOf] <;> omega
          · have n2 := ne_tl he2
            have hne : decide (L = M) = false := by
              rw [decide_eq_false_iff_not]; rintro rfl
              have := HX.out.symm.trans HY.out
              simp only [Option.some.injEq, Prod.mk.injEq] at this
              exact he2 this.2
            have HNE := hid hne
            clear hne he2
            go_wp2_with fail
            refine held_plain [0, 1, 2, 3, 4, 5, 6, 7, 8] 0 (fun w' => w'.cell? ⟨g, o + i * 2, none⟩ = some (.string x1) ∧ w'.cell? ⟨g, o + i * 2 + 1, none⟩ = some (.string x2) ∧ w'.cell? ⟨g', o' + i * 2, none⟩ = some (.string x1) ∧ w'.cell? ⟨g', o' + i * 2 + 1, none⟩ = some (.string y2)) (by kernel_rfl) (by kernel_rfl) (by kernel_rfl) (by kernel_rfl) ⟨m1, m2, m3, m4⟩ ?_
            iterate 9
              refine ⟨_, rfl, ?_⟩
              apply Exists.intro
              refine ⟨.inl ⟨by rfl, ?_⟩, ?_⟩
              · (intro W' hW'; obtain ⟨q1, q2, q3, q4⟩ := hW'; go_simp; try (with_reducible rfl))
              (dsimp only [Act.put]; try simp only [List.setIfInBounds_toArray, List.set_cons_zero, List.set_cons_succ])
            refine wpAnyH_done (by kernel_rfl) ?_ _
            simp only [Only]
            go_wp2_with fail
            go_ret
            exact ⟨by rw [HNE.out]; rfl, hB.out.drew⟩
        · have n1 := ne_tl he1
          have hne : decide (L = M) = false := by
            rw [decide_eq_false_iff_not]; rintro rfl
            have := HX.out.symm.trans HY.out
            simp only [Option.some.injEq, Prod.mk.injEq] at this
            exact he1 this.1
          have HNE := hid hne
          clear hne he1
          go_wp2_with fail
          refine held_plain [0, 1, 2, 3, 4, 5, 6, 7, 8] 0 (fun w' => w'.cell? ⟨g, o + i * 2, none⟩ = some (.string x1) ∧ w'.cell? ⟨g, o + i * 2 + 1, none⟩ = some (.string x2) ∧ w'.cell? ⟨g', o' + i * 2, none⟩ = some (.string y1) ∧ w'.cell? ⟨g', o' + i * 2 + 1, none⟩ = some (.string y2)) (by kernel_rfl) (by kernel_rfl) (by kernel_rfl) (by kernel_rfl) ⟨m1, m2, m3, m4⟩ ?_
          iterate 9
            refine ⟨_, rfl, ?_⟩
            apply Exists.intro
            refine ⟨.inl ⟨by rfl, ?_⟩, ?_⟩
            · (intro W' hW'; obtain ⟨q1, q2, q3, q4⟩ := hW'; go_simp; try (with_reducible rfl))
            (dsimp only [Act.put]; try simp only [List.setIfInBounds_toArray, List.set_cons_zero, List.set_cons_succ])
          refine wpAnyH_done (by kernel_rfl) ?_ _
          simp only [Only]
          go_wp2_with fail
          go_ret
          exact ⟨by rw [HNE.out]; rfl, hB.out.drew⟩
      · obtain rfl : i = n := by omega
        have hE : L = M := by
          apply List.ext_getElem?
          intro j
          by_cases hj : j < i
          · exact hI.out j hj
          · rw [List.getElem?_eq_none (by rw [HN.out]; omega), List.getElem?_eq_none (by rw [HM.out]; omega)]
        have HE := hid hE
        have q1 : decide ((i : Int) < (i : Int)) = false := by simp
        clear hlt hE
        go_wp2_with fail
        go_ret
        exact ⟨by rw [decide_eq_true HE.out]; rfl, hB.out⟩
  · have q0 : ((n : Int) != (m : Int)) = true := by rw [bne_iff_ne]; omega
    have hne : decide (L = M) = false := by
      rw [decide_eq_false_iff_not]; rintro rfl; exact hnm (hn.symm.trans hm)
    have HNE := hid hne
    clear hne hnm hn hm
    go_enter Tryz.func16, Tryz.ntmps16
    go_wp2_with fail
    go_ret
    exact ⟨by rw [HNE.out]; rfl, Below.refl _ _⟩
end Go.Proofs.YtjgcjjbnnlnilaaGreatDoor

/- Walks: pick.law: the map of the shares. -/
namespace Go.Proofs.YtjgcjjbnnlnilaaGreatDoor
open Go.RowKit Go.Shelf Go.Maps
open Go.Lib (decDigits nDigits)
set_option linter.unusedVariables false
set_option linter.unusedSimpArgs false
attribute [local go_sem] Oper.semAt_some

theorem sum_pos {l : List Nat} {x : Nat} (h : x ∈ l) (hx : x ≠ 0) : 0 < l.sum := by
  induction l with
  | nil => simp at h
  | cons a r ih =>
    rw [List.sum_cons]
    rcases List.mem_cons.1 h with rfl | h
    · omega
    · have := ih h; omega
theorem wsE_pos {l : List ByteArray} (h : wsE l = 0) : 0 < (l.map bN).sum := by
  obtain ⟨D1, -, -⟩ := wsE_ok h
  unfold wsE at h
  split at h
  · exact absurd h (by decide)
  · split at h
    · rename_i h2 h3; exact absurd h h3
    · split at h
      · rename_i h4
        obtain ⟨b, hb, hb2⟩ := List.any_eq_true.1 h4
        refine sum_pos (List.mem_map_of_mem hb) fun e => ?_
        have hb3 : b ≠ ⟨#[48]⟩ := by simpa using hb2
        obtain ⟨i, hi⟩ := List.getElem?_of_mem hb
        have e1 : ((l.map bN).map numB)[i]? = some (numB (bN b)) := by rw [List.getElem?_map, List.getElem?_map, hi]; rfl
        rw [← D1, hi] at e1
        apply hb3
        rw [Option.some.inj e1, e, numB_zero]
      · exact absurd h (by decide)

theorem lawKeyed : Keyed Tryz.prog 9 := string_keyed Tryz.underlying9

/-- The map behind the first i indexes. -/
def lawD {H : Type} (ws : List Nat) (t : Nat) : Nat → DataW H
  | 0 => .map []
  | i + 1 => if cntF ws t i < cntE ws t i then (lawD ws t i).put (.string (numB i).data.toList) (.lit (.string (shB (cnt ws t i) t).data.toList)) else lawD ws t i

/-- The whole map: what no index takes is late. -/
def lateB : ByteArray := ⟨#[108, 97, 116, 101]⟩
def lawM {H : Type} (ws : List Nat) (t N : Nat) : DataW H := if t - lwS ws t N = 0 then lawD ws t N else (lawD ws t N).put (.string [108, 97, 116, 101]) (.lit (.string (shB (t - lwS ws t N) t).data.toList))
theorem outB_size (q : Rat) : (outB q).size ≤ 10000 := by
  unfold outB
  split
  · exact (by decide : (0 : Nat) ≤ 10000)
  · rename_i h
    unfold ovQ at h
    have h1 := list_size (txQ q)
    unfold txQ at h1 ⊢
    rw [txB_list] at h1
    rw [← h1]
    simp only [List.length_append, Lib.decDigits_length]
    have e1 : (if decide (q.num < 0) = true then [45] else ([] : List UInt8)).length ≤ 1 := by split <;> simp
    have e2 : (if q.den = 1 then [] else (47 : UInt8) :: decDigits q.den).length ≤ 4001 := by
      split
      · simp
      · simp only [List.length_cons, Lib.decDigits_length]; omega
    omega
theorem shB_size (m t : Nat) : (shB m t).size ≤ maxLen := Nat.le_trans (outB_size _) (by unfold maxLen; decide)
theorem held_wide {P : Program} {Q : Exit → Act → World → Prop} {n : Nat} {id : Nat} {a : Act} {w : World} {l : List Oper} (S : World → Prop) (hm : P.follows .mixedOrders = true)
    (h : wpAnyH P .any l.toArray (Only Q) S l.toArray.size (Array.replicate l.toArray.size false) a { w with drawn := w.drawn + 1 }) : (Code.region id l.toArray true).wpIn Fence.wide n P Q a w :=
  wpIn_region_any hm (any_plain _ _ _ _ (wpAny_of_held _ _ _ _ h))

/-- What holds behind some weights: the map, what is left, the number. -/
def LawI {H : Type} (T t : Nat) (ws : List Nat) (p : List (ByteArray × ByteArray)) (W : World) : Prop := p.length ≤ ws.length ∧ W.ownsMap Tryz.prog 9 (plainElem Tryz.prog 23) (T + 1 + 1) p.length (lawD (H := H) ws t p.length) ∧
  Blk W (T + 1) #[.string (numB (t - lwS ws t p.length))] 23 ∧ Blk W (T + 1 + 1 + 1 + 1) #[.int .i64 (p.length : Nat)] 3
theorem LawI.own {H : Type} {T t C : Nat} {ws : List Nat} (hC : T + 1 + 1 < C) : OwnFrom C (LawI (H := H) T t ws) := by
  rintro s X Y row ⟨h1, h2, h3, h4⟩ hg hr
  exact ⟨h1, h2.kept hg (fun e => by have := (hr _ e.symm).1; omega), h3.kept hg (fun r e => (hr r e).2), h4.kept hg (fun r e => (hr r e).2)⟩

set_option maxRecDepth 100000 in
set_option maxHeartbeats 4000000 in
theorem p_law {H : Type} (w : World) (v : Value) (l : List ByteArray) (n : Nat) (hv : Row w v (strs l)) (hl : ∀ x ∈ l, x.size ≤ 1000000) (he : wsE l = 0) (hn : n ≤ 256) (hL : Lay w) :
    Calls Tryz.prog 56 #[v, .int .i64 (n : Nat)] w fun e w' => (∃ B, e = .returned (.tuple #[.map (some B), .int .i64 0]) ∧ w'.ownsMap Tryz.prog 9 (plainElem Tryz.prog 23) B (l.length + 1) (lawM (H := H) (l.map bN) (2 ^ n) l.length)) ∧ Below w.heap.size w w' := by
  have PC := fun V hV => hid (p_check V v l hV hl)
  have PE := fun V hws hV hLV => hid (p_ends V v (l.map bN) hws hV hLV)
  have PP := fun V hLV => hid (pk_pow2 V n hn hLV)
  obtain ⟨D1, D2, D3⟩ := wsE_ok he
  have he' := he
  rw [he] at PC
  have HL := hid hL; have HV := hid hv
  obtain ⟨a, c, rfl, q1, q2, -⟩ := hv.openS
  obtain ⟨N, hN⟩ : ∃ N, l.length = N := ⟨_, rfl⟩
  have HN := hid hN
  obtain ⟨ws, hws⟩ : ∃ ws, l.map bN = ws := ⟨_, rfl⟩
  have hlen : ws.length = N := by rw [← hws, List.length_map]; exact hN
  rw [hws] at PE D1 D2 ⊢
  rw [hN] at PC PE q1 HV D3 ⊢
  have HWS := hid D2; have HD1 := hid D1
  have HPOS : Hid (0 < ws.sum) := by rw [← hws]; exact wsE_pos he'
  obtain ⟨m, rfl⟩ : ∃ m, N = m + 1 := ⟨N - 1, by omega⟩
  have HLEN := hid hlen
  have hm : m < 64 := by have := D2.len; omega
  clear hv hL hl hN D1 D2 D3 hws hlen he he'
  have s1 : decide ((n : Int) < 0) = false := by simp
  have s2 : decide ((256 : Int) < (n : Int)) = false := by simp; omega
  obtain ⟨T0, hT0⟩ : ∃ s, numB (2 ^ n) = s := ⟨_, rfl⟩
  have HT0 := hid hT0
  rw [hT0] at PP
  have hmm := @run_makeMap Tryz.prog
  clear hT0
  refine (callsIn_wide (n := 9)).1 ?_
  refine callsIn_of_wp_marks Tryz.func56 rfl trivial ?_ rfl
  simp only [Tryz.ntmps56, List.size_toArray, List.length_cons, List.length_nil, Nat.reduceAdd, Nat.reduceSub, Array.replicate_succ, Array.replicate_zero, List.push_toArray, List.append_toArray, List.nil_append, List.cons_append]
  gi_wp2_with (refine ⟨trivial, ?_⟩; gi_at_call 38; refine (callsIn_wide.2 (PC _ HV.out).out).mono ?_; rintro e w1 ⟨rfl, hb1⟩
               have y1 := hid hb1; clear hb1)
  refine ⟨trivial, ?_⟩
  refine (callsIn_wide.2 (PE _ HWS.out (by rw [← HD1.out]; exact HV.out.call y1.out) (HL.out.call y1.out)).out).mono ?_; rintro e w2 ⟨⟨u, rfl, hu⟩, hb2⟩
  have y2 := hid (bnext y1.out hb2)
  clear hb2
  have hu2 := hid hu
  obtain ⟨a5, c5, rfl, r1, r2, r3⟩ := hu.openS
  rw [endL_length] at hu2 r1 ⊢
  obtain ⟨g, o, rfl, hg, hc⟩ := r3 m _ (endL_get (by rw [HLEN.out]; omega))
  rw [pre_all (by rw [HLEN.out]; omega)] at hc
  rw [HLEN.out] at r1 ⊢
  obtain ⟨S0, hS0⟩ : ∃ s, numB ws.sum = s := ⟨_, rfl⟩
  have HS0 := hid hS0
  rw [hS0] at hc
  have e1 : IntKind.i64.wrap (((m + 1 : Nat) : Int) - 1) = (m : Int) := by rw [IntWalk.i64_in _ ⟨by omega, by omega⟩]; omega
  have b1 : (0 : Int) ≤ (m : Int) := by omega
  have b2 : (m : Int) < (m : Int) + 1 := by omega
  clear hu hu2 r3 hS0
  gi_wp2_with fail
  have A3 := hid ((Below.refl w2.heap.size w2).alloc (Nat.le_refl _) (.cells #[.string S0] 23))
  have X3 := hid (Blk.new w2 #[.string S0] 23)
  refine ⟨trivial, ?_⟩
  refine (callsIn_wide.2 (PP _ ((HL.out.call y2.out).call A3.out)).out).mono ?_; rintro e w3 ⟨rfl, hb3⟩
  have X4 := hid (X3.out.call hb3)
  have y3 := hid (bnext y2.out (A3.out.trans (hb3.mono A3.out.size)))
  have hlt := hid (show w2.heap.size < w3.heap.size from X4.out.lt)
  clear hb3 hc hg
  gi_wp2_with fail
  refine ⟨trivial, ?_⟩
  refine (callsIn_wide.2 (p_scan _ _ _ _)).mono ?_; rintro e w' ⟨rfl, rfl⟩
  gi_wp2_with fail
  obtain ⟨W0, hW0⟩ : ∃ W0, ((((((w3.alloc (.cells #[.string T0] 23)).alloc (.cells #[.string T0] 23)).alloc (.map #[] 0)).alloc (.cells #[.map (some (w3.heap.size + 1 + 1))] 80)).alloc (.cells #[.int .i64 0] 3)).alloc (.cells #[.slice a (m + 1) c] 22)) = W0 := ⟨_, rfl⟩
  have d0 : Blk W0 w3.heap.size #[.string T0] 23 := by rw [← hW0]; exact (((((Blk.new w3 _ _).alloc _).alloc _).alloc _).alloc _).alloc _
  have d1 : Blk W0 (w3.heap.size + 1) #[.string T0] 23 := by rw [← hW0]; exact ((((Blk.made _ _ _ (by simp)).alloc _).alloc _).alloc _).alloc _
  have d2 : W0.ownsMap Tryz.prog 9 (plainElem (H := H) Tryz.prog 23) (w3.heap.size + 1 + 1) 0 (.map []) := by
    rw [← hW0]
    have h := World.ownsMap_made (H := H) ((w3.alloc (.cells #[.string T0] 23)).alloc (.cells #[.string T0] 23)) Tryz.prog 9 (plainElem Tryz.prog 23)
    simp only [World.size_alloc] at h
    exact ((h.alloc _).alloc _).alloc _
  have d3 : Blk W0 (w3.heap.size + 1 + 1 + 1) #[.map (some (w3.heap.size + 1 + 1))] 80 := by rw [← hW0]; exact ((Blk.made _ _ _ (by simp)).alloc _).alloc _
  have d4 : Blk W0 (w3.heap.size + 1 + 1 + 1 + 1) #[.int .i64 0] 3 := by rw [← hW0]; exact (Blk.made _ _ _ (by simp)).alloc _
  have d5 : Blk W0 (w3.heap.size + 1 + 1 + 1 + 1 + 1) #[.slice a (m + 1) c] 22 := by rw [← hW0]; exact Blk.made _ _ _ (by simp)
  have d6 : Below w3.heap.size w3 W0 := by
    rw [← hW0]
    exact ((((((Below.refl _ _).alloc (Nat.le_refl _) _).alloc (by simp) _).alloc (by simp <;> omega) _).alloc (by simp <;> omega) _).alloc (by simp <;> omega) _).alloc (by simp <;> omega) _
  have d7 : W0.heap.size = w3.heap.size + 1 + 1 + 1 + 1 + 1 + 1 := by rw [← hW0]; simp
  rw [hW0]
  have d8 : Blk W0 w2.heap.size #[.string S0] 23 := X4.out.call d6
  have Y0 := hid d0; have Y1 := hid d1; have Y2 := hid d2; have Y3 := hid d3; have Y4 := hid d4; have Y5 := hid d5; have HB0 := hid d6; have Z0 := hid d7; have Y8 := hid d8
  clear d0 d1 d2 d3 d4 d5 d6 d7 d8 hW0
  obtain ⟨T, hT⟩ : ∃ T, w3.heap.size = T := ⟨_, rfl⟩
  rw [hT] at Y0 Y1 Y2 Y3 Y4 Y5 HB0 Z0 hlt ⊢
  have HTT := hid hT
  clear hT
  have hread : ∀ W1 W2, Below W0.heap.size W0 W1 → KpE (T + 1) (T + 1 + 1 + 1 + 1 + 1) W1 W2 → W2.cell? ⟨T + 1 + 1 + 1 + 1 + 1, 0, none⟩ = some (.slice a (m + 1) c) ∧ Row W2 (.slice a (m + 1) c) (strs (ws.map numB)) ∧ Lay W2 := fun W1 W2 b1 b2 => by
    have hs := b1.size
    have hz := Z0.out
    obtain ⟨r1, r2⟩ := b2.rest (by omega) (by omega)
    have g1 : Blk W2 (T + 1 + 1 + 1 + 1 + 1) #[.slice a (m + 1) c] 22 := r2.trans (Y5.out.call b1)
    have hb : Below w.heap.size w W2 := by
      have k1 := y3.out
      have k2 := HB0.out
      have k3 := k1.size
      have k4 := HTT.out
      exact ((k1.trans (k2.mono (by omega))).trans (b1.mono (by omega))).trans (r1.mono (by omega))
    exact ⟨g1.cell 0, by rw [← HD1.out]; exact HV.out.call hb, HL.out.call hb⟩
  refine range_ok (by omega) (gf := 131) (lb := #[.pointer (some ⟨T + 1 + 1 + 1 + 1 + 1, 0, none⟩)]) rfl (enters_of Tryz.func131 (by kernel_rfl) rfl)
    (scan_feeds (Kp := KpE (T + 1) (T + 1 + 1 + 1 + 1 + 1)) 8 (by omega) W0 _ _ ws HWS.out (KpE.refl _ _) KpE.trans hread (fun _ _ => KpE.of_below)) KpE.trans (KpE.put (by have := Z0.out; omega) (by have := Z0.out; omega)) (Below.refl _ _) (fun _ => rfl)
    (fun p W => (LawI (H := H) T (2 ^ n) ws p W ∧ Blk W (T + 1 + 1 + 1) #[.map (some (T + 1 + 1))] 80 ∧ Blk W (T + 1 + 1 + 1 + 1 + 1) #[.slice a (m + 1) c] 22) ∧ Below (T + 1) W0 W)
    (fun c p W => False)
    (OwnFrom.and (fun s X Y row hs hg hr => ⟨LawI.own (by have := Z0.out; omega) s X Y row hs.1 hg hr, hs.2.1.kept hg (fun r e => (hr r e).2), hs.2.2.kept hg (fun r e => (hr r e).2)⟩) (ownFrom_below (by have := Z0.out; omega) (by have := Z0.out; omega)))
    (fun c s X Y row hs hg hr => hs)
    ⟨⟨⟨Nat.zero_le _, Y2.out, by rw [List.length_nil, lwS, Nat.sub_zero, HT0.out]; exact Y1.out, Y4.out⟩, Y3.out, Y5.out⟩, Below.refl _ _⟩ ?act ?assign ?body ?done ?stop
  case assign =>
    intro l x W K hK
    gi_wp2
    exact hK
  case body =>
    rintro l p ⟨s, x⟩ W ⟨hd, hs, y, hy, hx⟩ ⟨⟨⟨h1, hmap, hlate, hnum⟩, h3, h5⟩, hB⟩
    dsimp only at hs hx
    subst hs hx
    obtain ⟨i, hi'⟩ : ∃ i, p.length = i := ⟨_, rfl⟩
    rw [hi'] at hd hy hmap hlate hnum ⊢
    have HI := hid hi'
    have hi3 : i < 64 := by have := HWS.out.len; omega
    have hS : 0 < ws.sum := HPOS.out
    have nt := two_nd (u := n) (by omega)
    have n1 := HWS.out.pre i
    have n2 := HWS.out.pre (i + 1)
    have n3 := HWS.out.dig y (List.mem_of_getElem? hy)
    have nS := HWS.out.sum
    have m1 : nDigits (pre ws i * 2 ^ n) ≤ 3902 := nd_mul n1 nt (by omega)
    have m2 : nDigits (pre ws (i + 1) * 2 ^ n) ≤ 3902 := nd_mul n2 nt (by omega)
    have C1 := fun V hV => hid (pk_times V (pre ws i) (2 ^ n) (by omega) (by omega) (by omega) hV)
    have C2 := fun V hV => hid (n_DivMod V (pre ws i * 2 ^ n) ws.sum (by omega) (by omega) hS hV)
    have C3 := fun V hV => hid (pk_plus V (pre ws i) y (by omega) (by omega) (by rw [← pre_succ hy]; omega) hV)
    rw [← pre_succ hy] at C3
    have C4 := fun V hV => hid (pk_times V (pre ws (i + 1)) (2 ^ n) (by omega) (by omega) (by omega) hV)
    have C5 := fun V hV => hid (n_DivMod V (pre ws (i + 1) * 2 ^ n) ws.sum (by omega) (by omega) hS hV)
    obtain ⟨R0, hR0⟩ : ∃ s, numB (pre ws (i + 1)) = s := ⟨_, rfl⟩
    obtain ⟨M1, hM1⟩ : ∃ s, numB (pre ws (i + 1) * 2 ^ n) = s := ⟨_, rfl⟩
    obtain ⟨Q1, hQ1⟩ : ∃ s, numB (pre ws (i + 1) * 2 ^ n / ws.sum) = s := ⟨_, rfl⟩
    obtain ⟨E1, hE1⟩ : ∃ s, numB (pre ws (i + 1) * 2 ^ n % ws.sum) = s := ⟨_, rfl⟩
    obtain ⟨P0, hP0⟩ : ∃ s, numB (pre ws i) = s := ⟨_, rfl⟩
    obtain ⟨X0, hX0⟩ : ∃ s, numB y = s := ⟨_, rfl⟩
    obtain ⟨M0, hM0⟩ : ∃ s, numB (pre ws i * 2 ^ n) = s := ⟨_, rfl⟩
    obtain ⟨Q0, hQ0⟩ : ∃ s, numB (pre ws i * 2 ^ n / ws.sum) = s := ⟨_, rfl⟩
    obtain ⟨E0, hE0⟩ : ∃ s, numB (pre ws i * 2 ^ n % ws.sum) = s := ⟨_, rfl⟩
    rw [hP0, hX0, hR0] at C3
    rw [hR0, HT0.out, hM1] at C4
    rw [hM1, HS0.out, hQ1, hE1] at C5
    have HCE := hid (show numB (cntE ws (2 ^ n) i) = Q1 from hQ1)
    have HBD : Hid (nDigits (cntF ws (2 ^ n) i) ≤ 4000 ∧ nDigits (cntE ws (2 ^ n) i) ≤ 4000) := ⟨by have := nDigits_mono (cntF_le (ws := ws) (2 ^ n) hS (i := i)); omega, by have := nDigits_mono (Nat.div_le_self (pre ws (i + 1) * 2 ^ n) ws.sum); unfold cntE; omega⟩
    have HCB : Hid (nDigits (cnt ws (2 ^ n) i) ≤ 4000 ∧ nDigits (2 ^ n) ≤ 4000) := ⟨by have := nDigits_mono (Nat.le_trans (cnt_le ws (2 ^ n) i hS) (Nat.sub_le _ _)); omega, by omega⟩
    have HBD2 : Hid (nDigits (pre ws i * 2 ^ n / ws.sum) ≤ 4000) := by have := nDigits_mono (Nat.div_le_self (pre ws i * 2 ^ n) ws.sum); exact (by omega : nDigits (pre ws i * 2 ^ n / ws.sum) ≤ 4000)
    clear hR0 hM1 hQ1 hE1
    rw [hP0, HT0.out, hM0] at C1
    rw [hM0, HS0.out, hQ0, hE0] at C2
    rw [hP0, hX0]
    have HP0 := hid hP0; have HX0 := hid hX0; have HM0 := hid hM0; have HQ0 := hid hQ0; have HE0 := hid hE0
    have HY := hid hy; have HMAP := hid hmap; have HLATE := hid hlate; have HNUM := hid hnum; have H3 := hid h3; have H5 := hid h5; have HB := hid hB; have HD := hid hd; have HS := hid hS
    have HTWO := hid (Y0.out.below hB (by omega))
    have HALL := hid (Y8.out.below hB (by have := hlt.out; omega))
    have hLay : Hid (Lay W) := by
      have k1 := y3.out
      have k2 := HB0.out
      have k4 := HTT.out
      exact (HL.out.call y3.out).call ((by rw [k4]; exact k2.trans (hB.mono (by omega))))
    clear hy hmap hlate hnum h3 h5 hB hd hS hP0 hX0 hM0 hQ0 hE0 nt n1 n2 n3 nS m1 m2 hi'
    have c0 := HTWO.out.cell 0
    have c1 := HALL.out.cell 0
    simp at c0 c1
    gi_wp2_with fail
    have KK : Hid (∀ w', Below W.heap.size W w' → w'.cell? ⟨T, 0, none⟩ = some (.string T0) ∧ w'.cell? ⟨w2.heap.size, 0, none⟩ = some (.string S0)) := fun w' hb => ⟨(HTWO.out.call hb).cell 0, (HALL.out.call hb).cell 0⟩
    refine held_round (fun w' => w'.cell? ⟨T, 0, none⟩ = some (.string T0) ∧ w'.cell? ⟨w2.heap.size, 0, none⟩ = some (.string S0)) (by kernel_rfl) (by kernel_rfl) ?_
    refine held_more (is := [0, 1, 3]) (g := 9) (by kernel_rfl) rfl (KK.out _ (Below.refl _ _).drew) (by kernel_rfl) ?_
    iterate 3
      refine ⟨_, rfl, ?_⟩
      apply Exists.intro
      refine ⟨.inl ⟨by rfl, ?_⟩, ?_⟩
      · (intro W' hW'; obtain ⟨q1, q2⟩ := hW'; go_simp; try (with_reducible rfl))
      (dsimp only [Act.put]; try simp only [List.setIfInBounds_toArray, List.set_cons_zero, List.set_cons_succ])
    refine held_one (i := 2) (by kernel_rfl) (by rfl) (by rfl) ?_
    go_wp2_with fail
    refine (C1 _ (hLay.out.call (Below.refl _ _).drew)).out.mono ?_; rintro e w4 ⟨rfl, hb4⟩
    have x4 := hid (show Below W.heap.size W w4 from (Below.refl _ _).drew.trans hb4)
    clear hb4
    go_wp2_with fail
    refine ⟨KK.out _ x4.out, ?_⟩
    refine held_one (i := 4) (by kernel_rfl) (by rfl) (by rfl) ?_
    go_wp2_with fail
    refine (C2 _ (hLay.out.call x4.out)).out.mono ?_; rintro e w5 ⟨rfl, hb5⟩
    have x5 := hid (bnext x4.out hb5)
    clear hb5
    go_wp2_with fail
    refine ⟨KK.out _ x5.out, ?_⟩
    refine held_more (is := [5, 6, 7, 8, 9, 10, 11]) (g := 0) (by kernel_rfl) rfl (KK.out _ x5.out) (by kernel_rfl) ?_
    iterate 7
      refine ⟨_, rfl, ?_⟩
      apply Exists.intro
      refine ⟨.inl ⟨by rfl, ?_⟩, ?_⟩
      · (intro W' hW'; obtain ⟨q1, q2⟩ := hW'; go_simp; try (with_reducible rfl))
      (dsimp only [Act.put]; try simp only [List.setIfInBounds_toArray, List.set_cons_zero, List.set_cons_succ])
    refine wpAnyH_done (by kernel_rfl) ?_ _
    simp only [Only]
    have HF : Hid (cntF ws (2 ^ n) i = pre ws i * 2 ^ n / ws.sum + (if pre ws i * 2 ^ n % ws.sum ≠ 0 then 1 else 0)) := rfl
    obtain ⟨F0, hF0⟩ : ∃ s, numB (cntF ws (2 ^ n) i) = s := ⟨_, rfl⟩
    have HQF := hid hF0
    have C7 := fun V => hid (pk_cmp V (cntE ws (2 ^ n) i) (cntF ws (2 ^ n) i) HBD.out.2 HBD.out.1)
    rw [HCE.out, hF0] at C7
    obtain ⟨z, hz⟩ : ∃ z, ordN (cntE ws (2 ^ n) i) (cntF ws (2 ^ n) i) = z := ⟨_, rfl⟩
    rw [hz] at C7
    have HZ := hid (show decide (z > 0) = decide (cntF ws (2 ^ n) i < cntE ws (2 ^ n) i) from by rw [← hz]; exact ordN_pos)
    clear hF0 hz
    obtain ⟨tb, htb⟩ : ∃ b, (E0.toList == [48]) = b := ⟨_, rfl⟩
    gi_upto_if 65 with fail
    have HTB := hid htb
    clear htb
    gi_cut [16] from 23 (fun s16 wc => s16 = .string F0 ∧ Below W.heap.size W wc)
    case first =>
      by_cases hr0 : pre ws i * 2 ^ n % ws.sum = 0
      · have hF : numB (cntF ws (2 ^ n) i) = Q0 := by rw [HF.out, if_neg (by simpa using hr0), Nat.add_zero]; exact HQ0.out
        have HE := hid (hF.symm.trans HQF.out)
        obtain rfl : true = tb := by rw [← HTB.out, ← HE0.out, hr0, numB_zero, Lib.toList_data]; rfl
        clear hF hr0
        gi_wp2_with fail
        gi_meet
        case rel => exact ⟨by rw [HE.out], x5.out⟩
      · have hF : cntF ws (2 ^ n) i = pre ws i * 2 ^ n / ws.sum + 1 := by rw [HF.out, if_pos hr0]
        have he0 : ¬ E0 = ⟨[48].toArray⟩ := by rw [← HE0.out, ← numB_zero]; exact numB_ne hr0
        obtain rfl : false = tb := by rw [← HTB.out]; exact (ne_lit he0).symm
        have C6 := fun V hV => hid (pk_plus V (pre ws i * 2 ^ n / ws.sum) 1 HBD2.out (by rw [nDigits_one]; omega) (by rw [← hF]; exact HBD.out.1) hV)
        rw [HQ0.out, numB_one, ← hF, HQF.out] at C6
        clear hF hr0 he0
        gi_wp2_with fail
        refine ⟨trivial, ?_⟩
        refine (CallsIn.inRound _ (callsIn_wide.2 (C6 _ (hLay.out.call x5.out)).out)).mono ?_; rintro e w6 ⟨rfl, hb6⟩
        have xF := hid (bnext x5.out hb6)
        clear hb6
        gi_wp2_with fail
        gi_meet
        case rel => exact ⟨rfl, xF.out⟩
    case rest =>
      obtain ⟨rfl, hxF⟩ := hcut
      have xF := hid hxF
      clear hxF
      gi_wp2_with fail
      refine held_round (fun w' => w'.cell? ⟨T, 0, none⟩ = some (.string T0) ∧ w'.cell? ⟨w2.heap.size, 0, none⟩ = some (.string S0)) (by kernel_rfl) (by kernel_rfl) ?_
      refine held_more (is := [0, 1, 3, 5]) (g := 10) (by kernel_rfl) rfl (KK.out _ xF.out.drew) (by kernel_rfl) ?_
      iterate 4
        refine ⟨_, rfl, ?_⟩
        apply Exists.intro
        refine ⟨.inl ⟨by rfl, ?_⟩, ?_⟩
        · (intro W' hW'; obtain ⟨q1, q2⟩ := hW'; go_simp; try (with_reducible rfl))
        (dsimp only [Act.put]; try simp only [List.setIfInBounds_toArray, List.set_cons_zero, List.set_cons_succ])
      refine held_one (i := 2) (by kernel_rfl) (by rfl) (by rfl) ?_
      go_wp2_with fail
      refine (C3 _ (hLay.out.call xF.out.drew)).out.mono ?_; rintro e w7 ⟨rfl, hb7⟩
      have x7 := hid (bnext xF.out.drew hb7)
      clear hb7
      go_wp2_with fail
      refine ⟨KK.out _ x7.out, ?_⟩
      refine held_one (i := 4) (by kernel_rfl) (by rfl) (by rfl) ?_
      go_wp2_with fail
      refine (C4 _ (hLay.out.call x7.out)).out.mono ?_; rintro e w8 ⟨rfl, hb8⟩
      have x8 := hid (bnext x7.out hb8)
      clear hb8
      go_wp2_with fail
      refine ⟨KK.out _ x8.out, ?_⟩
      refine held_one (i := 6) (by kernel_rfl) (by rfl) (by rfl) ?_
      go_wp2_with fail
      refine (C5 _ (hLay.out.call x8.out)).out.mono ?_; rintro e w9 ⟨rfl, hb9⟩
      have x9 := hid (bnext x8.out hb9)
      clear hb9
      go_wp2_with fail
      refine ⟨KK.out _ x9.out, ?_⟩
      refine held_more (is := [7, 8, 9, 10, 11, 12, 13]) (g := 0) (by kernel_rfl) rfl (KK.out _ x9.out) (by kernel_rfl) ?_
      iterate 7
        refine ⟨_, rfl, ?_⟩
        apply Exists.intro
        refine ⟨.inl ⟨by rfl, ?_⟩, ?_⟩
        · (intro W' hW'; obtain ⟨q1, q2⟩ := hW'; go_simp; try (with_reducible rfl))
        (dsimp only [Act.put]; try simp only [List.setIfInBounds_toArray, List.set_cons_zero, List.set_cons_succ])
      refine wpAnyH_done (by kernel_rfl) ?_ _
      simp only [Only]
      gi_wp2_with fail
      refine ⟨trivial, ?_⟩
      refine (CallsIn.inRound _ (callsIn_wide.2 (C7 _).out)).mono ?_; rintro e w10 ⟨rfl, hb10⟩
      have x10 := hid (bnext x9.out hb10)
      clear hb10
      have k4 := (HNUM.out.call x10.out).cell 0
      have k5 := (HNUM.out.call x10.out).free 0
      simp at k4
      have wi : IntKind.i64.wrap ((i : Int) + 1) = ((i + 1 : Nat) : Int) := by rw [IntWalk.i64_in _ ⟨by omega, by omega⟩]; omega
      by_cases hlt2 : cntF ws (2 ^ n) i < cntE ws (2 ^ n) i
      · have z0 : decide (z > 0) = true := by rw [HZ.out]; simpa using hlt2
        have HLT2 := hid hlt2
        have hT := two_nd (u := n) (by omega)
        have C8 := fun V hV => hid (pk_less V (cntE ws (2 ^ n) i) (cntF ws (2 ^ n) i) HBD.out.2 HBD.out.1 (Nat.le_of_lt hlt2) hV)
        have hcl := cnt_le ws (2 ^ n) i HS.out
        have C9 := fun V hV => hid (pk_less V (2 ^ n - lwS ws (2 ^ n) i) (cnt ws (2 ^ n) i) (by have := nDigits_mono (Nat.sub_le (2 ^ n) (lwS ws (2 ^ n) i)); omega) (by have := nDigits_mono (Nat.le_trans hcl (Nat.sub_le _ _)); omega) hcl hV)
        obtain ⟨K0, hK0⟩ : ∃ s, numB (cnt ws (2 ^ n) i) = s := ⟨_, rfl⟩
        rw [HCE.out, HQF.out, show numB (cntE ws (2 ^ n) i - cntF ws (2 ^ n) i) = K0 from hK0] at C8
        obtain ⟨G0, hG0⟩ : ∃ s, numB (2 ^ n - lwS ws (2 ^ n) i) = s := ⟨_, rfl⟩
        obtain ⟨G1, hG1⟩ : ∃ s, numB (2 ^ n - lwS ws (2 ^ n) i - cnt ws (2 ^ n) i) = s := ⟨_, rfl⟩
        rw [hG0, hK0, hG1] at C9
        have HLT := hid (hG0 ▸ HLATE.out : Blk W (T + 1) #[.string G0] 23)
        have HK0 := hid hK0; have HG1 := hid hG1
        clear hlt2 hT hcl hK0 hG0 hG1 k4 k5
        gi_wp2_with fail
        refine ⟨trivial, ?_⟩
        refine (CallsIn.inRound _ (callsIn_wide.2 (C8 _ (hLay.out.call x10.out)).out)).mono ?_; rintro e w11 ⟨rfl, hb11⟩
        have x11 := hid (bnext x10.out hb11)
        have k6 := (HLT.out.call x11.out).cell 0
        have k7 := (HLT.out.call x11.out).free 0
        simp at k6
        clear hb11
        gi_wp2_with fail
        refine ⟨trivial, ?_⟩
        refine (CallsIn.inRound _ (callsIn_wide.2 (C9 _ (hLay.out.call x11.out)).out)).mono ?_; rintro e w12 ⟨rfl, hb12⟩
        have x12 := hid (bnext x11.out hb12)
        clear hb12 k6 k7
        have k7 := (HLT.out.call x12.out).free 0
        have k8 := (HLT.out.call x12.out).cell 0
        simp at k8
        gi_wp2_with fail
        have hz0 := Z0.out
        have hsz := HB.out.size
        have hx := x12.out.size
        obtain ⟨V, hV⟩ : ∃ V, w12.setCell ⟨T + 1, 0, none⟩ (.string G1) = V := ⟨_, rfl⟩
        have v3 : Blk V (T + 1 + 1 + 1) #[.map (some (T + 1 + 1))] 80 := by rw [← hV]; exact (H3.out.call x12.out).other (a := ⟨T + 1, 0, none⟩) (by simp) _
        have v4 : Blk V (T + 1 + 1 + 1 + 1) #[.int .i64 (i : Nat)] 3 := by rw [← hV]; exact (HNUM.out.call x12.out).other (a := ⟨T + 1, 0, none⟩) (by simp <;> omega) _
        have v0 : Blk V T #[.string T0] 23 := by rw [← hV]; exact (HTWO.out.call x12.out).other (a := ⟨T + 1, 0, none⟩) (by simp) _
        have v5 : Blk V (T + 1 + 1 + 1 + 1 + 1) #[.slice a (m + 1) c] 22 := by rw [← hV]; exact (H5.out.call x12.out).other (a := ⟨T + 1, 0, none⟩) (by simp <;> omega) _
        have v1 : Blk V (T + 1) #[.string G1] 23 := by rw [← hV]; exact (HLT.out.call x12.out).set 0 _
        have vm : V.ownsMap Tryz.prog 9 (plainElem (H := H) Tryz.prog 23) (T + 1 + 1) i (lawD ws (2 ^ n) i) := by
          rw [← hV]
          exact (HMAP.out.kept (row := none) ⟨x12.out.os, x12.out.tape, x12.out.output, x12.out.size, fun k hk _ => x12.out.block k hk⟩ (by simp)).kept (grownBy_setCell' w12 (T + 1) (.string G1)) (by simp)
        have vb : Below (T + 1) W V := by rw [← hV]; exact (x12.out.mono (by omega)).setCell (by simp) _
        have vk : KeepsFrom W0.heap.size W V := by
          rw [← hV]
          exact KeepsFrom.trans ⟨x12.out.size, fun k o hk ho hc => (x12.out.block k (Array.getElem?_eq_some_iff.1 ho).1).trans ho⟩ ((KeepsOthers.setCell _ _ _).from _)
        have vL : Lay V := by
          have q := HL.out.lt
          have h1 := y3.out.size
          have h2 := HTT.out
          exact Lay.below hLay.out vb ⟨Nat.lt_of_lt_of_le q.1 (by omega), Nat.lt_of_lt_of_le q.2 (by omega)⟩
        have hsv := vb.size
        have V0 := hid v0; have V1 := hid v1; have V3 := hid v3; have V4 := hid v4; have V5 := hid v5; have VM := hid vm; have VB := hid vb; have VK := hid vk; have VL := hid vL; have HSV := hid hsv
        have KV : Hid (∀ w', Below V.heap.size V w' → w'.cell? ⟨T, 0, none⟩ = some (.string T0) ∧ w'.cell? ⟨T + 1 + 1 + 1, 0, none⟩ = some (.map (some (T + 1 + 1))) ∧ w'.cell? ⟨T + 1 + 1 + 1 + 1, 0, none⟩ = some (.int .i64 (i : Nat))) := fun w' hb => ⟨(V0.out.call hb).cell 0, (V3.out.call hb).cell 0, (V4.out.call hb).cell 0⟩
        have C10 := fun V hV => hid (s_Itoa V i (by omega) hV)
        have C11 := fun V hV => hid (pk_make V (cnt ws (2 ^ n) i) (2 ^ n) HCB.out.1 HCB.out.2 (Nat.ne_of_gt (Nat.pow_pos (by omega))) hV)
        obtain ⟨I0, hI0⟩ : ∃ s, numB i = s := ⟨_, rfl⟩
        obtain ⟨J0, hJ0⟩ : ∃ s, shB (cnt ws (2 ^ n) i) (2 ^ n) = s := ⟨_, rfl⟩
        obtain ⟨oe, hoe⟩ : ∃ s, outE (qmk false (cnt ws (2 ^ n) i) (2 ^ n)) = s := ⟨_, rfl⟩
        rw [hI0] at C10
        rw [HK0.out, HT0.out, hJ0, hoe] at C11
        have HI0 := hid hI0; have HJ0 := hid hJ0
        rw [hV]
        clear v0 v1 v3 v4 v5 vm vb vk vL hsv hV hI0 hJ0 hoe k7 k8 hz0 hsz hx
        refine held_round (fun w' => w'.cell? ⟨T, 0, none⟩ = some (.string T0) ∧ w'.cell? ⟨T + 1 + 1 + 1, 0, none⟩ = some (.map (some (T + 1 + 1))) ∧ w'.cell? ⟨T + 1 + 1 + 1 + 1, 0, none⟩ = some (.int .i64 (i : Nat))) (by kernel_rfl) (by kernel_rfl) ?_
        refine held_more (is := [0, 1, 3, 4]) (g := 6) (by kernel_rfl) rfl (KV.out _ (Below.refl _ _).drew) (by kernel_rfl) ?_
        iterate 4
          refine ⟨_, rfl, ?_⟩
          apply Exists.intro
          refine ⟨.inl ⟨by rfl, ?_⟩, ?_⟩
          · (intro W' hW'; obtain ⟨q1, q2, q3⟩ := hW'; go_simp; try (with_reducible rfl))
          (dsimp only [Act.put]; try simp only [List.setIfInBounds_toArray, List.set_cons_zero, List.set_cons_succ])
        refine held_one (i := 2) (by kernel_rfl) (by rfl) (by rfl) ?_
        go_wp2_with fail
        refine (C10 _ (VL.out.call (Below.refl _ _).drew)).out.mono ?_; rintro e w13 ⟨rfl, hb13⟩
        have x13 := hid (show Below V.heap.size V w13 from (Below.refl _ _).drew.trans hb13)
        clear hb13
        go_wp2_with fail
        refine ⟨KV.out _ x13.out, ?_⟩
        refine held_one (i := 5) (by kernel_rfl) (by rfl) (by rfl) ?_
        go_wp2_with fail
        refine (C11 _ (VL.out.call x13.out)).out.mono ?_; rintro e w14 ⟨rfl, hb14⟩
        have x14 := hid (bnext x13.out hb14)
        clear hb14
        go_wp2_with fail
        refine ⟨KV.out _ x14.out, ?_⟩
        refine held_more (is := [6, 7, 8]) (g := 1) (by kernel_rfl) rfl (KV.out _ x14.out) (by kernel_rfl) ?_
        iterate 3
          refine ⟨_, rfl, ?_⟩
          apply Exists.intro
          refine ⟨.inl ⟨by rfl, ?_⟩, ?_⟩
          · (intro W' hW'; obtain ⟨q1, q2, q3⟩ := hW'; go_simp; try (with_reducible rfl))
          (dsimp only [Act.put]; try simp only [List.setIfInBounds_toArray, List.set_cons_zero, List.set_cons_succ])
        refine held_one (i := 9) (by kernel_rfl) (by rfl) (by rfl) ?_
        have hIs : I0.size ≤ maxLen := by rw [← HI0.out, numB_size]; have := nDigits_le (n := i) (k := 2) (by omega) (by omega); unfold maxLen; omega
        have hJs : J0.size ≤ maxLen := by rw [← HJ0.out]; exact shB_size _ _
        have lt15 := HSV.out
        refine wpList_mapUpdate_own _ rfl _ _ _ 80 rfl 9 23 lawKeyed Tryz.underlying80 _ (T + 1 + 1) i _ rfl (VM.out.kept (row := none) ⟨x14.out.os, x14.out.tape, x14.out.output, x14.out.size, fun k hk _ => x14.out.block k hk⟩ (by simp)) (by unfold maxLen; omega) _ _ _ rfl rfl (Go.WideMaps.keyOf_string_mk Tryz.underlying9 hIs) _ [] (plainElem_string Tryz.underlying23 hJs) ?_
        intro w15 hown hgrow
        have U3 := hid ((V3.out.call x14.out).grown hgrow (fun e => by injection e with e; omega))
        have U4 := hid ((V4.out.call x14.out).grown hgrow (fun e => by injection e with e; omega))
        have U5 := hid ((V5.out.call x14.out).grown hgrow (fun e => by injection e with e; omega))
        have U0 := hid ((V0.out.call x14.out).grown hgrow (fun e => by injection e with e; omega))
        have U1 := hid ((V1.out.call x14.out).grown hgrow (fun e => by injection e with e; omega))
        have UM := hid hown
        have UB := hid (below_gb (VB.out.trans (x14.out.mono (by have := VB.out.size; have := Z0.out; have := HB.out.size; omega))) (by have := x14.out.size; have := Z0.out; have := HB.out.size; omega) hgrow (by omega))
        have UK : Hid (KeepsFrom W0.heap.size W w15) := VK.out.trans (KeepsFrom.trans ⟨x14.out.size, fun k o hk ho hc => (x14.out.block k (Array.getElem?_eq_some_iff.1 ho).1).trans ho⟩ ⟨hgrow.size, fun k o hk ho hc => (hgrow.block k (Array.getElem?_eq_some_iff.1 ho).1 (by have := Z0.out; simp; omega)).trans ho⟩)
        have m3 := U3.out.cell 0
        have m0 := U0.out.cell 0
        have m4 := U4.out.cell 0
        have m5 := U4.out.free 0
        simp at m0 m3 m4
        clear hown hgrow lt15
        go_wp2_with fail
        refine ⟨⟨m0, m3, m4⟩, ?_⟩
        refine wpAnyH_done (by kernel_rfl) ?_ _
        simp only [Only]
        gi_wp2_with fail
        have hz0 := Z0.out
        have hsz := HB.out.size
        have hx := UB.out.size
        have g5 := U5.out.other (a := ⟨T + 1 + 1 + 1 + 1, 0, none⟩) (by simp <;> omega) (.int .i64 ((i + 1 : Nat) : Int))
        have g3 := U3.out.other (a := ⟨T + 1 + 1 + 1 + 1, 0, none⟩) (by simp <;> omega) (.int .i64 ((i + 1 : Nat) : Int))
        have g1 := U1.out.other (a := ⟨T + 1 + 1 + 1 + 1, 0, none⟩) (by simp <;> omega) (.int .i64 ((i + 1 : Nat) : Int))
        have g4 := U4.out.set 0 (.int .i64 ((i + 1 : Nat) : Int))
        have gm := UM.out.kept (grownBy_setCell' w15 (T + 1 + 1 + 1 + 1) (.int .i64 ((i + 1 : Nat) : Int))) (by simp <;> omega)
        have eD : lawD (H := H) ws (2 ^ n) (i + 1) = (lawD ws (2 ^ n) i).put (.string (numB i).data.toList) (.lit (.string (shB (cnt ws (2 ^ n) i) (2 ^ n)).data.toList)) := by rw [lawD, if_pos HLT2.out]
        have eS : 2 ^ n - lwS ws (2 ^ n) (i + 1) = 2 ^ n - lwS ws (2 ^ n) i - cnt ws (2 ^ n) i := by rw [lwS]; omega
        refine ⟨KeepsFrom.trans UK.out ((KeepsOthers.setCell _ _ _).from _), ⟨by simpa [World.setCell] using hx, fun _ _ => ⟨UB.out.setCell (by simp <;> omega) _, g5.trans (Eq.symm H5.out)⟩⟩, ⟨⟨?_, ?_, ?_, ?_⟩, g3, g5⟩, (HB.out.trans UB.out).setCell (by simp <;> omega) _⟩
        · rw [List.length_append, List.length_singleton, HI.out]; exact HD.out
        · rw [List.length_append, List.length_singleton, HI.out, eD, HI0.out, HJ0.out]; exact gm
        · rw [List.length_append, List.length_singleton, HI.out, eS, HG1.out]; exact g1
        · rw [List.length_append, List.length_singleton, HI.out]; exact g4
      · have z0 : decide (z > 0) = false := by rw [HZ.out]; simpa using hlt2
        have HLT2 := hid hlt2
        clear hlt2
        gi_wp2_with fail
        have hz0 := Z0.out
        have hsz := HB.out.size
        have hx := x10.out.size
        have g5 := (H5.out.call x10.out).other (a := ⟨T + 1 + 1 + 1 + 1, 0, none⟩) (by simp <;> omega) (.int .i64 ((i + 1 : Nat) : Int))
        have g3 := (H3.out.call x10.out).other (a := ⟨T + 1 + 1 + 1 + 1, 0, none⟩) (by simp <;> omega) (.int .i64 ((i + 1 : Nat) : Int))
        have g1 := (HLATE.out.call x10.out).other (a := ⟨T + 1 + 1 + 1 + 1, 0, none⟩) (by simp <;> omega) (.int .i64 ((i + 1 : Nat) : Int))
        have g4 := (HNUM.out.call x10.out).set 0 (.int .i64 ((i + 1 : Nat) : Int))
        have gm := (HMAP.out.kept (row := none) ⟨x10.out.os, x10.out.tape, x10.out.output, x10.out.size, fun k hk _ => x10.out.block k hk⟩ (by simp)).kept (grownBy_setCell' w10 (T + 1 + 1 + 1 + 1) (.int .i64 ((i + 1 : Nat) : Int))) (by simp <;> omega)
        have eD : lawD (H := H) ws (2 ^ n) (i + 1) = lawD ws (2 ^ n) i := by rw [lawD, if_neg HLT2.out]
        have eS : lwS ws (2 ^ n) (i + 1) = lwS ws (2 ^ n) i := by rw [lwS, cnt]; have := HLT2.out; omega
        refine ⟨KeepsFrom.trans ⟨x10.out.size, fun k o hk ho hc => (x10.out.block k (Array.getElem?_eq_some_iff.1 ho).1).trans ho⟩ ((KeepsOthers.setCell _ _ _).from _), ⟨by simpa [World.setCell] using x10.out.size, fun _ _ => ⟨(x10.out.mono (by omega)).setCell (by simp <;> omega) _, g5.trans (Eq.symm H5.out)⟩⟩, ⟨⟨?_, ?_, ?_, ?_⟩, g3, g5⟩, (HB.out.trans (x10.out.mono (by omega))).setCell (by simp <;> omega) _⟩
        · rw [List.length_append, List.length_singleton, HI.out]; exact HD.out
        · rw [List.length_append, List.length_singleton, HI.out, eD]; exact gm.mono (Nat.le_succ _)
        · rw [List.length_append, List.length_singleton, HI.out, eS]; exact g1
        · rw [List.length_append, List.length_singleton, HI.out]; exact g4
  case done =>
    rintro D' xs W hD hS ⟨⟨⟨h1, hmap, hlate, hnum⟩, h3, h5⟩, hB⟩ hK
    rw [hS] at hmap hlate
    have hlw := lwS_fit ws (2 ^ n) ws.length HPOS.out
    have nt := two_nd (u := n) (by omega)
    have hnd : Hid (nDigits (2 ^ n - lwS ws (2 ^ n) ws.length) ≤ 4000 ∧ nDigits (2 ^ n) ≤ 4000) := ⟨by have := nDigits_mono (Nat.sub_le (2 ^ n) (lwS ws (2 ^ n) ws.length)); omega, by omega⟩
    obtain ⟨L, hL⟩ : ∃ L, 2 ^ n - lwS ws (2 ^ n) ws.length = L := ⟨_, rfl⟩
    rw [hL] at hlate hnd
    have HLL := hid hL
    obtain ⟨L0, hL0⟩ : ∃ s, numB L = s := ⟨_, rfl⟩
    rw [hL0] at hlate
    have HL0 := hid hL0
    have HMAP := hid hmap; have HLATE := hid hlate; have H3 := hid h3; have HB := hid hB; have HK := hid hK; have HDD := hid hD; have HWL := hid HLEN.out
    have hLay : Hid (Lay W) := by
      have k1 := y3.out
      have k2 := HB0.out
      have k4 := HTT.out
      exact (HL.out.call y3.out).call ((by rw [k4]; exact k2.trans (hB.mono (by omega))))
    have HTWO := hid (Y0.out.below hB (by omega))
    have c0 := HTWO.out.cell 0
    have c1 := HLATE.out.cell 0
    have c3 := H3.out.cell 0
    simp at c0 c1 c3
    clear hS h1 hmap hlate hnum h3 h5 hB hK hD hL hL0 hlw nt
    by_cases hz : L = 0
    · have hl0 : L0 = ⟨#[48]⟩ := by rw [← HL0.out, hz, numB_zero]
      subst hl0
      have HZ := hid hz
      clear hz
      gi_wp2_with fail
      refine marks_end HK.out (v := .tuple #[.map (some (T + 1 + 1)), .int .i64 0]) (by simp [results, Tryz.results56, go_sem]) ⟨⟨_, rfl, ?_⟩, ?_⟩
      · have hm2 := HMAP.out.kept (grownBy_putObj' W D' (.deferred none)) (fun e => by injection e with e; have := HDD.out; have := Z0.out; omega)
        rw [lawM, if_pos (by rw [← HWL.out, HLL.out, HZ.out]), ← HWL.out]
        exact hm2.mono (Nat.le_succ _)
      · have k1 := y3.out
        have k2 := HTT.out
        have k3 := k1.size
        refine ((k1.trans (HB0.out.mono (by omega))).trans (HB.out.mono (by omega))).trans (belowK_b (w := w) (Nat.le_refl _) _ D' _ _ (by have := Z0.out; have := HDD.out; omega) HK.out rfl rfl)
    · have he0 : ¬ L0 = ⟨[48].toArray⟩ := by rw [← HL0.out, ← numB_zero]; exact numB_ne hz
      have hne := ne_lit he0
      have HNZ := hid hz
      have C1 := fun V hV => hid (pk_make V L (2 ^ n) hnd.out.1 hnd.out.2 (Nat.ne_of_gt (Nat.pow_pos (by omega))) hV)
      obtain ⟨J0, hJ0⟩ : ∃ s, shB L (2 ^ n) = s := ⟨_, rfl⟩
      obtain ⟨oe, hoe⟩ : ∃ s, outE (qmk false L (2 ^ n)) = s := ⟨_, rfl⟩
      rw [HL0.out, HT0.out, hJ0, hoe] at C1
      have HJ0 := hid hJ0
      have KV : Hid (∀ w', Below W.heap.size W w' → w'.cell? ⟨T, 0, none⟩ = some (.string T0) ∧ w'.cell? ⟨T + 1, 0, none⟩ = some (.string L0) ∧ w'.cell? ⟨T + 1 + 1 + 1, 0, none⟩ = some (.map (some (T + 1 + 1)))) := fun w' hb => ⟨(HTWO.out.call hb).cell 0, (HLATE.out.call hb).cell 0, (H3.out.call hb).cell 0⟩
      clear hz he0 hJ0 hoe c0 c3
      gi_wp2_with fail
      refine held_wide (fun w' => w'.cell? ⟨T, 0, none⟩ = some (.string T0) ∧ w'.cell? ⟨T + 1, 0, none⟩ = some (.string L0) ∧ w'.cell? ⟨T + 1 + 1 + 1, 0, none⟩ = some (.map (some (T + 1 + 1)))) (by kernel_rfl) ?_
      refine held_more (is := [0, 1, 2]) (g := 5) (by kernel_rfl) rfl (KV.out _ (Below.refl _ _).drew) (by kernel_rfl) ?_
      iterate 3
        refine ⟨_, rfl, ?_⟩
        apply Exists.intro
        refine ⟨.inl ⟨by rfl, ?_⟩, ?_⟩
        · (intro W' hW'; obtain ⟨q1, q2, q3⟩ := hW'; go_simp; try (with_reducible rfl))
        (dsimp only [Act.put]; try simp only [List.setIfInBounds_toArray, List.set_cons_zero, List.set_cons_succ])
      refine held_one (i := 3) (by kernel_rfl) (by rfl) (by rfl) ?_
      go_wp2_with fail
      refine (C1 _ (hLay.out.call (Below.refl _ _).drew)).out.mono ?_; rintro e w4 ⟨rfl, hb4⟩
      have x4 := hid (show Below W.heap.size W w4 from (Below.refl _ _).drew.trans hb4)
      clear hb4
      go_wp2_with fail
      refine ⟨KV.out _ x4.out, ?_⟩
      refine held_more (is := [4, 5, 6]) (g := 1) (by kernel_rfl) rfl (KV.out _ x4.out) (by kernel_rfl) ?_
      iterate 3
        refine ⟨_, rfl, ?_⟩
        apply Exists.intro
        refine ⟨.inl ⟨by rfl, ?_⟩, ?_⟩
        · (intro W' hW'; obtain ⟨q1, q2, q3⟩ := hW'; go_simp; try (with_reducible rfl))
        (dsimp only [Act.put]; try simp only [List.setIfInBounds_toArray, List.set_cons_zero, List.set_cons_succ])
      refine held_one (i := 7) (by kernel_rfl) (by rfl) (by rfl) ?_
      have hJs : J0.size ≤ maxLen := by rw [← HJ0.out]; exact shB_size _ _
      have hm64 : ws.length ≤ 64 := by have := HLEN.out; omega
      refine wpList_mapUpdate_own _ rfl _ _ _ 80 rfl 9 23 lawKeyed Tryz.underlying80 _ (T + 1 + 1) ws.length _ rfl (HMAP.out.kept (row := none) ⟨x4.out.os, x4.out.tape, x4.out.output, x4.out.size, fun k hk _ => x4.out.block k hk⟩ (by simp)) (by unfold maxLen; omega) _ _ _ rfl rfl (Go.WideMaps.keyOf_string_mk Tryz.underlying9 (by unfold maxLen; decide)) _ [] (plainElem_string Tryz.underlying23 hJs) ?_
      intro w15 hown hgrow
      have U3 := hid ((H3.out.call x4.out).grown hgrow (fun e => by injection e with e; omega))
      have U0 := hid ((HTWO.out.call x4.out).grown hgrow (fun e => by injection e with e; omega))
      have U1 := hid ((HLATE.out.call x4.out).grown hgrow (fun e => by injection e with e; omega))
      have UM := hid hown
      have UB := hid (below_gb ((HB.out).trans (x4.out.mono (by have := HB.out.size; have := Z0.out; omega))) (by have := x4.out.size; have := Z0.out; have := HB.out.size; omega) hgrow (by omega))
      have UK : Hid (w15.heap[D']? = some (.deferred (some []))) := by
        have hl := (Array.getElem?_eq_some_iff.1 HK.out).1
        have h1 := x4.out.block D' hl
        have h2 := hgrow.block D' (by have := x4.out.size; omega) (by have := HDD.out; have := Z0.out; simp; omega)
        rw [h2, h1]; exact HK.out
      have m3 := U3.out.cell 0
      have m0 := U0.out.cell 0
      have m1 := U1.out.cell 0
      simp at m0 m1 m3
      clear hown hgrow hm64 c1
      go_wp2_with fail
      refine ⟨⟨m0, m1, m3⟩, ?_⟩
      refine wpAnyH_done (by kernel_rfl) ?_ _
      simp only [Only]
      gi_wp2_with fail
      refine marks_end UK.out (v := .tuple #[.map (some (T + 1 + 1)), .int .i64 0]) (by simp [results, Tryz.results56, go_sem]) ⟨⟨_, rfl, ?_⟩, ?_⟩
      · have hm2 := UM.out.kept (grownBy_putObj' w15 D' (.deferred none)) (fun e => by injection e with e; have := HDD.out; have := Z0.out; omega)
        rw [lawM, if_neg (by rw [← HWL.out, HLL.out]; exact HNZ.out), ← HWL.out, HLL.out, HJ0.out]
        exact hm2
      · have k1 := y3.out
        have k2 := HTT.out
        have k3 := k1.size
        refine ((k1.trans (HB0.out.mono (by omega))).trans (UB.out.mono (by omega))).trans (belowK_b (w := w) (Nat.le_refl _) _ D' _ _ (by have := Z0.out; have := HDD.out; omega) UK.out rfl rfl)
  case stop =>
    rintro D' c p W hD - h hK
    exact h.elim
end Go.Proofs.YtjgcjjbnnlnilaaGreatDoor

/- Plain: what a map of texts holds, as a list of pairs, sorted by key; what pick.law's map holds. -/
namespace Go.Proofs.YtjgcjjbnnlnilaaGreatDoor
open Go.RowKit Go.Maps
open Go.Lib (decDigits nDigits)
set_option linter.unusedVariables false

/-- A pair's key, as bytes. -/
def keyL (p : ByteArray × ByteArray) : List UInt8 := p.1.data.toList

/-- D holds the pairs of L and no others. -/
structure Reads {H : Type} (D : DataW H) (L : List (ByteArray × ByteArray)) : Prop where
  map : IsMap D
  nd : (L.map keyL).Nodup
  has : ∀ k : List UInt8, Maps.has D (.string k) = true ↔ k ∈ L.map keyL
  look : ∀ p ∈ L, ∀ z, D.atKey (.string (keyL p)) z = .lit (.string p.2.data.toList)

theorem Reads.nil {H : Type} : Reads (.map [] : DataW H) [] :=
  ⟨isMap_empty, by simp, fun k => by simp [Maps.has_eq], fun p h => by simp at h⟩

theorem Reads.put {H : Type} {D : DataW H} {L : List (ByteArray × ByteArray)} (h : Reads D L) {k v : ByteArray} (hk : k.data.toList ∉ L.map keyL) :
    Reads (D.put (.string k.data.toList) (.lit (.string v.data.toList))) (L ++ [(k, v)]) := by
  refine ⟨h.map.put _ _, ?_, fun x => ?_, fun p hp z => ?_⟩
  · rw [List.map_append]
    refine List.nodup_append.2 ⟨h.nd, by simp, fun a ha b hb => ?_⟩
    simp [keyL] at hb
    subst hb
    exact fun e => hk (e ▸ ha)
  · rw [List.map_append, List.mem_append, ← h.has x]
    by_cases hx : x = k.data.toList
    · subst hx
      rw [has_put_same h.map (show WideAt.IsKeyLit (.string k.data.toList) from trivial)]
      simp [keyL]
    · rw [has_put_other (fun e => hx (by injection e))]
      simp [keyL, hx]
  · rcases List.mem_append.1 hp with hp | hp
    · rw [atKey_put_other (fun e => hk ?_), h.look p hp]
      injection e with e
      rw [← e]
      exact List.mem_map_of_mem hp
    · simp at hp
      subst hp
      exact atKey_put_same h.map (show WideAt.IsKeyLit (.string k.data.toList) from trivial) _ _

/-- Pairs by their keys. -/
def sortM (L : List (ByteArray × ByteArray)) : List (ByteArray × ByteArray) := L.mergeSort (fun p q => leB (keyL p) (keyL q))
theorem sortM_keys (L : List (ByteArray × ByteArray)) : (sortM L).map keyL = (L.map keyL).mergeSort leB := List.map_mergeSort (fun _ _ _ _ => rfl)
theorem sortM_mem {L : List (ByteArray × ByteArray)} {p : ByteArray × ByteArray} : p ∈ sortM L ↔ p ∈ L := List.mem_mergeSort
theorem sortM_length (L : List (ByteArray × ByteArray)) : (sortM L).length = L.length := List.length_mergeSort L
theorem leB_trans : ∀ a b c : List UInt8, leB a b = true → leB b c = true → leB a c = true := fun a b c h1 h2 => by simp only [leB, decide_eq_true_eq] at *; exact List.le_trans h1 h2
theorem leB_total : ∀ a b : List UInt8, (leB a b || leB b a) = true := fun a b => by simp only [leB, Bool.or_eq_true, decide_eq_true_eq]; exact List.le_total a b
theorem sortM_sorted (L : List (ByteArray × ByteArray)) : (sortM L).Pairwise (fun p q => leB (keyL p) (keyL q) = true) :=
  List.pairwise_mergeSort (le := fun p q => leB (keyL p) (keyL q)) (fun a b c => leB_trans (keyL a) (keyL b) (keyL c)) (fun a b => leB_total (keyL a) (keyL b)) L

/-- The datum's keys, sorted, are the pairs' keys, sorted. -/
theorem Reads.keys {H : Type} {P : Program} {k : TypeId} {R : Value → Option (DataW H × List MemPlace)} {w : World} {b n : Nat} {D : DataW H} {L : List (ByteArray × ByteArray)} (h : Reads D L) (hown : w.ownsMap P k R b n D) (K : Keyed P k) (hk : P.underlying k = some .string) {ss : List (List UInt8)} (hp : ss.Perm (strKeys D)) :
    ss.mergeSort leB = (sortM L).map keyL := by
  have hc : Collected D (fun _ => false) (L.map keyL) := ⟨h.nd, fun x => by rw [h.has x]; simp⟩
  have hp2 := hc.perm hown K hk (fun _ => rfl)
  rw [sortM_keys]
  exact mergeSort_of_perm (hp.trans hp2.symm)
theorem Reads.size {H : Type} {P : Program} {k : TypeId} {R : Value → Option (DataW H × List MemPlace)} {w : World} {b n : Nat} {D : DataW H} {L : List (ByteArray × ByteArray)} (h : Reads D L) (hown : w.ownsMap P k R b n D) (K : Keyed P k) (hk : P.underlying k = some .string) :
    Maps.size D = L.length := by
  have hc : Collected D (fun _ => false) (L.map keyL) := ⟨h.nd, fun x => by rw [h.has x]; simp⟩
  have hp2 := hc.perm hown K hk (fun _ => rfl)
  have := hp2.length_eq
  rw [List.length_map] at this
  rw [this]
  obtain ⟨es, rfl⟩ := h.map
  simp [strKeys, Maps.size]

/-- The cells of some masses. -/
def massC (L : List (ByteArray × ByteArray)) : List Value := L.flatMap (fun p => [.string p.1, .string p.2])
theorem massC_length (L : List (ByteArray × ByteArray)) : (massC L).length = L.length * 2 := by
  unfold massC
  induction L with
  | nil => rfl
  | cons p r ih => rw [List.flatMap_cons, List.length_append, ih, List.length_cons]; simp; omega
theorem massC_append (L M : List (ByteArray × ByteArray)) : massC (L ++ M) = massC L ++ massC M := by simp [massC]
theorem massC_get {L : List (ByteArray × ByteArray)} : ∀ {i : Nat} {p : ByteArray × ByteArray}, L[i]? = some p → (massC L)[2 * i]? = some (.string p.1) ∧ (massC L)[2 * i + 1]? = some (.string p.2) := by
  induction L with
  | nil => intro i p h; simp at h
  | cons q r ih =>
    intro i p h
    cases i with
    | zero => simp at h; subst h; exact ⟨rfl, rfl⟩
    | succ i =>
      have h' : r[i]? = some p := by simpa using h
      obtain ⟨h1, h2⟩ := ih h'
      have e : massC (q :: r) = [.string q.1, .string q.2] ++ massC r := rfl
      rw [e, show 2 * (i + 1) = 2 + 2 * i by omega]
      constructor
      · rw [List.getElem?_append_right (by simp)]; simpa using h1
      · rw [List.getElem?_append_right (by simp <;> omega)]
        simp only [List.length_cons, List.length_nil]
        rw [show 2 + 2 * i + 1 - (0 + 1 + 1) = 2 * i + 1 by omega]
        exact h2

theorem MRow.of_owns {w : World} {base n : Nat} {e : TypeId} {v : Value} {L : List (ByteArray × ByteArray)} (h : w.ownsRow base e 2 v n (massC L)) : MRow w v L := by
  have hn : n = L.length := by have := h.1; rw [massC_length] at this; omega
  subst hn
  refine ⟨?_⟩
  have hh := h
  rcases h.2 with ⟨rfl, h0⟩ | ⟨g, cap, cur, rfl, hb, hg, h1, h2, h3, h4⟩
  · exact ⟨none, 0, by rw [h0], by omega, by omega, fun i x hx => by have := (List.getElem?_eq_some_iff.1 hx).1; omega⟩
  · refine ⟨some ⟨g, 0, none⟩, cap, rfl, h1, by unfold maxLen at h2; exact h2, fun i x hx => ⟨g, 0, rfl, (Array.getElem?_eq_some_iff.1 hg).1, ?_⟩⟩
    obtain ⟨m1, m2⟩ := massC_get hx
    have k1 := hh.cells rfl _ _ m1
    have k2 := hh.cells rfl _ _ m2
    rw [Addr.add_lit] at k1 k2
    rw [← Nat.add_assoc] at k2
    exact ⟨k1, k2⟩

/-- The pairs of pick.law's map behind i indexes. -/
def lawL (ws : List Nat) (t : Nat) : Nat → List (ByteArray × ByteArray)
  | 0 => []
  | i + 1 => if cntF ws t i < cntE ws t i then lawL ws t i ++ [(numB i, shB (cnt ws t i) t)] else lawL ws t i
/-- All of them. -/
def lawP (ws : List Nat) (t N : Nat) : List (ByteArray × ByteArray) := if t - lwS ws t N = 0 then lawL ws t N else lawL ws t N ++ [(lateB, shB (t - lwS ws t N) t)]

theorem lawL_mem {ws : List Nat} {t : Nat} {p : ByteArray × ByteArray} : ∀ {N : Nat}, p ∈ lawL ws t N ↔ ∃ i, i < N ∧ cntF ws t i < cntE ws t i ∧ p = (numB i, shB (cnt ws t i) t)
  | 0 => by simp [lawL]
  | N + 1 => by
    unfold lawL
    have ih := @lawL_mem ws t p N
    by_cases h : cntF ws t N < cntE ws t N
    · rw [if_pos h, List.mem_append, ih, List.mem_singleton]
      constructor
      · rintro (⟨i, h1, h2, h3⟩ | rfl)
        · exact ⟨i, by omega, h2, h3⟩
        · exact ⟨N, by omega, h, rfl⟩
      · rintro ⟨i, h1, h2, h3⟩
        rcases Nat.lt_or_ge i N with h4 | h4
        · exact .inl ⟨i, h4, h2, h3⟩
        · obtain rfl : i = N := by omega
          exact .inr h3
    · rw [if_neg h, ih]
      constructor
      · rintro ⟨i, h1, h2, h3⟩
        exact ⟨i, by omega, h2, h3⟩
      · rintro ⟨i, h1, h2, h3⟩
        rcases Nat.lt_or_ge i N with h4 | h4
        · exact ⟨i, h4, h2, h3⟩
        · obtain rfl : i = N := by omega
          exact absurd h2 h

theorem lawL_length (ws : List Nat) (t : Nat) : ∀ N, (lawL ws t N).length ≤ N
  | 0 => by simp [lawL]
  | N + 1 => by
    unfold lawL
    have := lawL_length ws t N
    split <;> simp <;> omega
theorem lawP_length (ws : List Nat) (t N : Nat) : (lawP ws t N).length ≤ N + 1 := by
  unfold lawP
  have := lawL_length ws t N
  split <;> simp <;> omega

theorem numB_late (i : Nat) : (numB i).data.toList ≠ lateB.data.toList := by
  intro e
  have h : (108 : UInt8) ∈ decDigits i := by
    rw [← numB_list, e]; decide
  exact absurd (allDig_dec i 108 h) (by decide)

theorem reads_lawD {H : Type} (ws : List Nat) (t : Nat) : ∀ N, Reads (lawD (H := H) ws t N) (lawL ws t N)
  | 0 => Reads.nil
  | N + 1 => by
    have ih := reads_lawD (H := H) ws t N
    unfold lawD lawL
    by_cases h : cntF ws t N < cntE ws t N
    · rw [if_pos h, if_pos h]
      refine ih.put fun hm => ?_
      obtain ⟨p, hp, he⟩ := List.mem_map.1 hm
      obtain ⟨i, h1, -, rfl⟩ := lawL_mem.1 hp
      simp only [keyL, numB_list] at he
      have := dec_inj he
      omega
    · rw [if_neg h, if_neg h]; exact ih
theorem reads_lawM {H : Type} (ws : List Nat) (t N : Nat) : Reads (lawM (H := H) ws t N) (lawP ws t N) := by
  have ih := reads_lawD (H := H) ws t N
  unfold lawM lawP
  by_cases h : t - lwS ws t N = 0
  · rw [if_pos h, if_pos h]; exact ih
  · rw [if_neg h, if_neg h]
    refine ih.put (k := lateB) fun hm => ?_
    obtain ⟨p, hp, he⟩ := List.mem_map.1 hm
    obtain ⟨i, h1, -, rfl⟩ := lawL_mem.1 hp
    exact numB_late i he
end Go.Proofs.YtjgcjjbnnlnilaaGreatDoor

/-
  DERIVED: THE SHELF's CONTRACTS AT THIS DUMP, IN PLAIN WORDS (tools/lay-plain.mjs out of 'YtjgcjjbnnlnilaaGreatDoorShK.lean', which tools/lay-shelf.mjs wrote): THE SAME DECLARATIONS UNDER THE SAME NAMES: 'import', 'namespace', 'open', 'def', 'theorem' AND NOTHING ELSE: no command of the shelf's: FOR A HAND-IN. Each laying: the table of numbers ('.._ren') and one theorem, a field a fact of the dump's own or the kernel's comparison; each contract: ONE APPLICATION.
-/
namespace Go.Proofs
open Go.Shelf
def Tryz.keysK_ren : Go.Shelf.Ren := ⟨fun | 7 => 111 | 10 => 155 | n => n, fun | 23 => 80 | 26 => 9 | 3 => 23 | 28 => 139 | 0 => 0 | 27 => 138 | 33 => 149 | 4 => 4 | n => n, fun | n => n⟩
theorem Tryz.keysK : Go.Proofs.SlLaysZ.n7 Tryz.prog Tryz.keysK_ren := {
  mixed := by kernel_rfl
  f7 := ⟨Tryz.f111.name, by decide, Tryz.func111.trans (congrArg some (by kernel_rfl))⟩
  f10 := ⟨Tryz.f155.name, by decide, Tryz.func155.trans (congrArg some (by kernel_rfl))⟩
  t0 := Tryz.underlying0
  a0 := Tryz.isAgg0
  z0 := Tryz.sizeOf0
  v0 := Tryz.zeroValue0
  t4 := Tryz.underlying4
  a4 := Tryz.isAgg4
  z4 := Tryz.sizeOf4
  v4 := Tryz.zeroValue4
  t23 := Tryz.underlying80
  a23 := Tryz.isAgg80
  z23 := Tryz.sizeOf80
  v23 := Tryz.zeroValue80
  t26 := Tryz.underlying9
  a26 := Tryz.isAgg9
  z26 := Tryz.sizeOf9
  v26 := Tryz.zeroValue9
  t27 := Tryz.underlying138
  a27 := Tryz.isAgg138
  z27 := Tryz.sizeOf138
  v27 := Tryz.zeroValue138
  t28 := Tryz.underlying139
  a28 := Tryz.isAgg139
  z28 := Tryz.sizeOf139
  v28 := Tryz.zeroValue139
  t33 := Tryz.underlying149
  a33 := Tryz.isAgg149
  z33 := Tryz.sizeOf149
  v33 := Tryz.zeroValue149 }
def Tryz.sortedK_ren : Go.Shelf.Ren := ⟨fun | 6 => 110 | 8 => 153 | 9 => 154 | 11 => 185 | 13 => 187 | 12 => 186 | 23 => 212 | 24 => 196 | 14 => 203 | 15 => 204 | 16 => 205 | 17 => 206 | 18 => 207 | 19 => 208 | 20 => 209 | 21 => 210 | 22 => 211 | 25 => 219 | 26 => 220 | 27 => 221 | 28 => 222 | 29 => 223 | 30 => 224 | 31 => 229 | n => n, fun | 26 => 9 | 28 => 139 | 24 => 136 | 0 => 0 | 3 => 3 | 37 => 119 | 48 => 216 | 50 => 159 | 4 => 4 | 40 => 226 | 39 => 225 | 45 => 118 | 5 => 5 | 9 => 9 | 51 => 237 | 55 => 241 | 57 => 252 | 58 => 253 | 33 => 149 | n => n, fun | n => n⟩
theorem Tryz.sortedK : Go.Proofs.SlLaysZ.n6 Tryz.prog Tryz.sortedK_ren := {
  mixed := by kernel_rfl
  f6 := ⟨Tryz.f110.name, by decide, Tryz.func110.trans (congrArg some (by kernel_rfl))⟩
  f8 := ⟨Tryz.f153.name, by decide, Tryz.func153.trans (congrArg some (by kernel_rfl))⟩
  f11 := ⟨Tryz.f185.name, by decide, Tryz.func185.trans (congrArg some (by kernel_rfl))⟩
  t0 := Tryz.underlying0
  a0 := Tryz.isAgg0
  z0 := Tryz.sizeOf0
  v0 := Tryz.zeroValue0
  t24 := Tryz.underlying136
  a24 := Tryz.isAgg136
  z24 := Tryz.sizeOf136
  v24 := Tryz.zeroValue136
  t26 := Tryz.underlying9
  a26 := Tryz.isAgg9
  z26 := Tryz.sizeOf9
  v26 := Tryz.zeroValue9
  t28 := Tryz.underlying139
  a28 := Tryz.isAgg139
  z28 := Tryz.sizeOf139
  v28 := Tryz.zeroValue139
  i26 := by kernel_rfl }
def Tryz.sortK_ren : Go.Shelf.Ren := ⟨fun | 6 => 154 | 8 => 187 | 9 => 186 | 19 => 212 | 20 => 196 | 21 => 203 | 22 => 204 | 23 => 205 | 24 => 206 | 25 => 207 | 26 => 208 | 27 => 209 | 28 => 210 | 29 => 211 | 36 => 219 | 31 => 220 | 32 => 221 | 37 => 222 | 38 => 223 | 39 => 224 | 41 => 229 | n => n, fun | 27 => 136 | 29 => 9 | 3 => 3 | 32 => 119 | 26 => 136 | 0 => 0 | 44 => 216 | 46 => 159 | 4 => 4 | 36 => 226 | 35 => 225 | 41 => 118 | 5 => 5 | 9 => 9 | 53 => 237 | 57 => 241 | 63 => 252 | 64 => 253 | n => n, fun | n => n⟩
theorem Tryz.sortK : Go.Proofs.SlLaysM.n6 Tryz.prog Tryz.sortK_ren := {
  mixed := by kernel_rfl
  f6 := ⟨Tryz.f154.name, by decide, Tryz.func154.trans (congrArg some (by kernel_rfl))⟩
  f8 := Tryz.func187.trans (congrArg some (by kernel_rfl))
  f9 := ⟨Tryz.f186.name, by decide, Tryz.func186.trans (congrArg some (by kernel_rfl))⟩
  f19 := Tryz.func212.trans (congrArg some (by kernel_rfl))
  f20 := Tryz.func196.trans (congrArg some (by kernel_rfl))
  f21 := ⟨Tryz.f203.name, by decide, Tryz.func203.trans (congrArg some (by kernel_rfl))⟩
  f22 := ⟨Tryz.f204.name, by decide, Tryz.func204.trans (congrArg some (by kernel_rfl))⟩
  f23 := ⟨Tryz.f205.name, by decide, Tryz.func205.trans (congrArg some (by kernel_rfl))⟩
  f24 := ⟨Tryz.f206.name, by decide, Tryz.func206.trans (congrArg some (by kernel_rfl))⟩
  f25 := ⟨Tryz.f207.name, by decide, Tryz.func207.trans (congrArg some (by kernel_rfl))⟩
  f26 := ⟨Tryz.f208.name, by decide, Tryz.func208.trans (congrArg some (by kernel_rfl))⟩
  f27 := ⟨Tryz.f209.name, by decide, Tryz.func209.trans (congrArg some (by kernel_rfl))⟩
  f28 := ⟨Tryz.f210.name, by decide, Tryz.func210.trans (congrArg some (by kernel_rfl))⟩
  f29 := ⟨Tryz.f211.name, by decide, Tryz.func211.trans (congrArg some (by kernel_rfl))⟩
  f31 := Tryz.func220.trans (congrArg some (by kernel_rfl))
  f32 := Tryz.func221.trans (congrArg some (by kernel_rfl))
  f36 := ⟨Tryz.f219.name, by decide, Tryz.func219.trans (congrArg some (by kernel_rfl))⟩
  f37 := ⟨Tryz.f222.name, by decide, Tryz.func222.trans (congrArg some (by kernel_rfl))⟩
  f38 := ⟨Tryz.f223.name, by decide, Tryz.func223.trans (congrArg some (by kernel_rfl))⟩
  f39 := ⟨Tryz.f224.name, by decide, Tryz.func224.trans (congrArg some (by kernel_rfl))⟩
  f41 := ⟨Tryz.f229.name, by decide, Tryz.func229.trans (congrArg some (by kernel_rfl))⟩
  t0 := Tryz.underlying0
  a0 := Tryz.isAgg0
  z0 := Tryz.sizeOf0
  v0 := Tryz.zeroValue0
  t3 := Tryz.underlying3
  a3 := Tryz.isAgg3
  z3 := Tryz.sizeOf3
  v3 := Tryz.zeroValue3
  t4 := Tryz.underlying4
  a4 := Tryz.isAgg4
  z4 := Tryz.sizeOf4
  v4 := Tryz.zeroValue4
  t5 := Tryz.underlying5
  a5 := Tryz.isAgg5
  z5 := Tryz.sizeOf5
  v5 := Tryz.zeroValue5
  t9 := Tryz.underlying9
  a9 := Tryz.isAgg9
  z9 := Tryz.sizeOf9
  v9 := Tryz.zeroValue9
  t26 := Tryz.underlying136
  a26 := Tryz.isAgg136
  z26 := Tryz.sizeOf136
  v26 := Tryz.zeroValue136
  t27 := Tryz.underlying136
  a27 := Tryz.isAgg136
  z27 := Tryz.sizeOf136
  v27 := Tryz.zeroValue136
  t29 := Tryz.underlying9
  a29 := Tryz.isAgg9
  z29 := Tryz.sizeOf9
  v29 := Tryz.zeroValue9
  t32 := Tryz.underlying119
  a32 := Tryz.isAgg119
  z32 := Tryz.sizeOf119
  v32 := Tryz.zeroValue119
  t35 := Tryz.underlying225
  a35 := Tryz.isAgg225
  z35 := Tryz.sizeOf225
  v35 := Tryz.zeroValue225
  t36 := Tryz.underlying226
  a36 := Tryz.isAgg226
  z36 := Tryz.sizeOf226
  v36 := Tryz.zeroValue226
  t41 := Tryz.underlying118
  a41 := Tryz.isAgg118
  z41 := Tryz.sizeOf118
  v41 := Tryz.zeroValue118
  t44 := Tryz.underlying216
  a44 := Tryz.isAgg216
  z44 := Tryz.sizeOf216
  v44 := Tryz.zeroValue216
  t46 := Tryz.underlying159
  a46 := Tryz.isAgg159
  z46 := Tryz.sizeOf159
  v46 := Tryz.zeroValue159
  t53 := Tryz.underlying237
  a53 := Tryz.isAgg237
  z53 := Tryz.sizeOf237
  v53 := Tryz.zeroValue237
  t57 := Tryz.underlying241
  a57 := Tryz.isAgg241
  z57 := Tryz.sizeOf241
  v57 := Tryz.zeroValue241
  t63 := Tryz.underlying252
  a63 := Tryz.isAgg252
  z63 := Tryz.sizeOf252
  v63 := Tryz.zeroValue252
  t64 := Tryz.underlying253
  a64 := Tryz.isAgg253
  z64 := Tryz.sizeOf253
  v64 := Tryz.zeroValue253 }
end Go.Proofs

/- The shelf's contracts of slices.Sorted(maps.Keys(m)) laid at this program (as lay-iter prints them, the numbers by name). -/
namespace Go.Proofs
open Go.RowKit Go.Maps Go.Sort Go.Shelf


theorem Tryz.sortsK (m : Nat) : AnyZ.SortsIn Tryz.prog Tryz.sortedK_ren Fence.wide m :=
  ⟨fun blk off cap ss W hH hblk hsz => callsIn_wide.2 (AnyM.slices_Sort_string Tryz.sortK blk off cap ss W hH hblk hsz),
   fun p cap W => callsIn_wide.2 (AnyM.slices_Sort_string_none Tryz.sortK p cap W)⟩

theorem Tryz.maps_keys (mb : Option Nat) (W : World) : CallsIn Fence.wide 5 Tryz.prog 111 #[.map mb] W fun e w' => e = .returned (.func (.func 155) #[] #[.pointer (some ⟨W.heap.size, 0, none⟩)]) ∧ w' = W.alloc (.cells #[.map mb] 80) :=
  AnyZ.keys_in Tryz.keysK Fence.wide 5 trivial rfl mb W

set_option maxHeartbeats 1000000 in
theorem Tryz.sorted_keys {H : Type} (b nn : Nat) (D0 : DataW H) (R : Value → Option (DataW H × List MemPlace)) (w : World) (hown : w.ownsMap Tryz.prog 9 R b nn D0) (hmax : Maps.size D0 ≤ maxLen) (hbytes : Maps.size D0 * 16 ≤ 140737488355328) :
    CallsIn Fence.wide 5 Tryz.prog 110 #[.func (.func 155) #[] #[.pointer (some ⟨w.heap.size, 0, none⟩)]] (w.alloc (.cells #[.map (some b)] 80)) fun e w' => ∃ (v : Value) (ss : List (List UInt8)), e = .returned v ∧ ss.Perm (strKeys D0) ∧
      w'.ownsRow (w.alloc (.cells #[.map (some b)] 80)).heap.size 9 1 v ss.length ((ss.mergeSort (fun x y => decide (x ≤ y))).map encStr) ∧ (v = .slice none 0 0 ↔ ss = []) ∧ Below (w.alloc (.cells #[.map (some b)] 80)).heap.size (w.alloc (.cells #[.map (some b)] 80)) w' := by
  have hbl := hown.lt
  have hseq : SeqGives Fence.wide 2 Tryz.prog 155 #[.pointer (some ⟨w.heap.size, 0, none⟩)] encStr (fun ss => ss.Perm (strKeys D0)) (Maps.size D0) (w.alloc (.cells #[.map (some b)] 80)) :=
    AnyZ.keys_gives (ρ := Tryz.keysK_ren) { Tryz.keysK with } Fence.wide _ trivial rfl (by omega) w.heap.size b nn D0 _ (by simp) (by simp) (by
      obtain ⟨es, clock, hb, Ft, hs, hD⟩ := hown
      exact ⟨es, clock, (Below.heap_alloc _ _ b hbl).trans hb, Ft, hs, hD⟩)
  exact AnyZ.sorted_in Tryz.sortedK Fence.wide 5 trivial trivial trivial trivial rfl (by omega) (Tryz.sortsK _) (enters_of Tryz.func154 (by kernel_rfl) rfl) 155 #[.pointer (some ⟨w.heap.size, 0, none⟩)] trivial (enters_of Tryz.func155 (by kernel_rfl) rfl) _ _ hmax hbytes _ hseq

set_option maxHeartbeats 1000000 in
theorem Tryz.sorted_keys_nil (w : World) :
    CallsIn Fence.wide 5 Tryz.prog 110 #[.func (.func 155) #[] #[.pointer (some ⟨w.heap.size, 0, none⟩)]] (w.alloc (.cells #[.map none] 80)) fun e w' => ∃ (v : Value) (ss : List (List UInt8)), e = .returned v ∧ ss = [] ∧
      w'.ownsRow (w.alloc (.cells #[.map none] 80)).heap.size 9 1 v ss.length ((ss.mergeSort (fun x y => decide (x ≤ y))).map encStr) ∧ (v = .slice none 0 0 ↔ ss = []) ∧ Below (w.alloc (.cells #[.map none] 80)).heap.size (w.alloc (.cells #[.map none] 80)) w' := by
  have hseq : SeqGives Fence.wide 2 Tryz.prog 155 #[.pointer (some ⟨w.heap.size, 0, none⟩)] encStr (fun ss : List (List UInt8) => ss = []) 0 (w.alloc (.cells #[.map none] 80)) :=
    AnyZ.keys_gives_nil (ρ := Tryz.keysK_ren) { Tryz.keysK with } Fence.wide _ trivial rfl w.heap.size _ (by simp) (by simp)
  exact AnyZ.sorted_in Tryz.sortedK Fence.wide 5 trivial trivial trivial trivial rfl (by omega) (Tryz.sortsK _) (enters_of Tryz.func154 (by kernel_rfl) rfl) 155 #[.pointer (some ⟨w.heap.size, 0, none⟩)] trivial (enters_of Tryz.func155 (by kernel_rfl) rfl) _ 0 (Nat.zero_le _) (by omega) _ hseq

end Go.Proofs

/- Walks: pick.listed: a map's pairs in the order of their keys. -/
namespace Go.Proofs.YtjgcjjbnnlnilaaGreatDoor
open Go.RowKit Go.Shelf Go.Maps
open Go.Lib (decDigits nDigits)
set_option linter.unusedVariables false
set_option linter.unusedSimpArgs false

theorem info_mass : (Tryz.prog.info? 43).map (fun i => (i.zero, i.size, i.bytes)) = some (some (.agg #[.string ⟨#[]⟩, .string ⟨#[]⟩]), 2, 32) := by kernel_rfl
theorem zero_num (w : World) : (zeroValue 23).run Tryz.prog w = .ok (.string ⟨#[]⟩) w := by kernel_rfl

theorem encStr_at {l : List (List UInt8)} {i : Nat} {k : List UInt8} (h : l[i]? = some k) : (l.map encStr)[i]? = some (.string ⟨k.toArray⟩) := by
  rw [List.getElem?_map, h]; rfl

theorem look_run {H : Type} {w : World} {B nn : Nat} {D : DataW H} {L : List (ByteArray × ByteArray)} (hown : w.ownsMap Tryz.prog 9 (plainElem Tryz.prog 23) B nn D) (hR : Reads D L) {p : ByteArray × ByteArray} (hp : p ∈ L) (hk : (keyL p).length ≤ maxLen) :
    (Instr.lookup 80 (.map (some B)) (.string p.1) false).run Tryz.prog w = .ok (.string p.2) w := by
  have hk2 : keyOf Tryz.prog 9 (.string p.1) = some (.string p.1.data.toList) := by
    have := Go.WideMaps.keyOf_string_mk Tryz.underlying9 (s := p.1) (by simpa [keyL] using hk)
    simpa using this
  obtain ⟨v, ps, h1, h2⟩ := hown.lookup lawKeyed Tryz.underlying80 (zero_num w) (plainElem_string Tryz.underlying23 (s := ⟨#[]⟩) (Nat.zero_le _)) hk2
  rw [show D.atKey (.string p.1.data.toList) (.lit (.string (⟨#[]⟩ : ByteArray).data.toList)) = .lit (.string p.2.data.toList) from hR.look p hp _] at h2
  obtain ⟨s, rfl, h3, -⟩ := plainElem_string_inv Tryz.underlying23 h2
  simp only [Prod.mk.injEq, DataW.lit.injEq, Lit.string.injEq] at h3
  rw [h1, ba_ext h3.1]

set_option maxRecDepth 100000 in
set_option maxHeartbeats 2000000 in
theorem p_listed {H : Type} (w : World) (B nn : Nat) (D : DataW H) (L : List (ByteArray × ByteArray)) (hown : w.ownsMap Tryz.prog 9 (plainElem Tryz.prog 23) B nn D) (hR : Reads D L) (hl : L.length ≤ 1000) (hkl : ∀ p ∈ L, (keyL p).length ≤ 1000) :
    Calls Tryz.prog 57 #[.map (some B)] w fun e w' => (∃ v, e = .returned v ∧ MRow w' v (sortM L)) ∧ Below w.heap.size w w' := by
  have hsz := hR.size hown lawKeyed Tryz.underlying9
  have HK := hid (callsIn_wide.1 (Tryz.maps_keys (some B) w))
  have HS := hid (callsIn_wide.1 (Tryz.sorted_keys B nn D _ w hown (by rw [hsz]; unfold maxLen; omega) (by rw [hsz]; omega)))
  have HKEYS := hid (fun ss => hR.keys (ss := ss) hown lawKeyed Tryz.underlying9)
  have HOWN := hid hown; have HR := hid hR; have HL := hid hl; have HKL := hid hkl
  obtain ⟨i0, hi, hz0, hz1, hz2⟩ := info_parts info_mass
  clear hown hR hl hkl hsz
  go_enter Tryz.func57, Tryz.ntmps57
  go_wp2_with fail
  refine HK.out.mono ?_; rintro e w1 ⟨rfl, rfl⟩
  go_wp2_with fail
  refine HS.out.mono ?_; rintro e w2 ⟨v, ss, rfl, hp, hown2, -, hb⟩
  rw [HKEYS.out ss hp] at hown2
  have hlen : ss.length = (sortM L).length := by
    have h := congrArg List.length (HKEYS.out ss hp)
    rw [List.length_mergeSort, List.length_map] at h
    exact h
  rw [hlen] at hown2
  obtain ⟨n, hn⟩ : ∃ n, (sortM L).length = n := ⟨_, rfl⟩
  have hn2 : n ≤ 1000 := by rw [← hn, sortM_length]; exact HL.out
  rw [hn] at hown2
  obtain ⟨a, c, rfl⟩ := owns_ex hown2
  have hrow := Row.of_owns hown2
  have HROW := hid hrow
  have HN := hid hn
  have hcap := hrow.len.2
  have hB : Below w.heap.size w w2 := ((Below.refl _ _).alloc (Nat.le_refl _) _).trans (hb.mono (by simp))
  have HB := hid hB
  have hBL := HOWN.out.lt
  unfold maxLen at hcap
  clear hlen hn hown2 hrow hb hB hp
  go_wp2_with fail
  go_loopw [3, 10] (fun s3 s10 wr => ∃ i : Nat, s10 = .int .i64 (i : Nat) ∧ i ≤ n ∧ Hid (wr.ownsRow w2.heap.size 43 2 s3 i (massC ((sortM L).take i))) ∧ Hid (Below w2.heap.size w2 wr)) (fun s3 s10 wr => n - (intOf s10).toNat)
  case atStart => exact ⟨0, rfl, Nat.zero_le _, ⟨rfl, .inl ⟨rfl, rfl⟩⟩, Below.refl _ _⟩
  case round =>
    obtain ⟨i, rfl, hi2, hO, hB⟩ := hrel
    by_cases hlt : i < n
    · obtain ⟨p, hp⟩ : ∃ x, (sortM L)[i]? = some x := ⟨_, List.getElem?_eq_getElem (by rw [HN.out]; exact hlt)⟩
      have hpm : p ∈ L := sortM_mem.1 (List.mem_of_getElem? hp)
      obtain ⟨g, o, rfl, hg, hc⟩ := HROW.out.at (encStr_at (show ((sortM L).map keyL)[i]? = some (keyL p) by rw [List.getElem?_map, hp]; rfl))
      have hc2 := (hB.out.cell (p := ⟨g, o + i, none⟩) hg).trans hc
      have e1 : (⟨(keyL p).toArray⟩ : ByteArray) = p.1 := by simp [keyL]
      rw [e1] at hc2
      have hb2 : Below w.heap.size w _ := HB.out.trans (hB.out.mono HB.out.size)
      have hrun := look_run (HOWN.out.kept (row := none) ⟨hb2.os, hb2.tape, hb2.output, hb2.size, fun k hk _ => hb2.block k hk⟩ (by simp)) HR.out hpm (by have := HKL.out p hpm; unfold maxLen; omega)
      obtain ⟨pk, pv⟩ := p
      dsimp only at hrun hc2
      have HP := hid hp
      have b1 : (0 : Int) ≤ (i : Int) := by omega
      have b2 : (i : Int) < (n : Int) := by omega
      clear hp hpm hc e1 hg hb2
      have hbs := HB.out.size
      go_wp2_with (at_builtin; refine wpList_append_own _ rfl _ _ 38 rfl w2.heap.size 43 i0 (.agg #[.string ⟨#[]⟩, .string ⟨#[]⟩]) 2 32 Tryz.underlying38 hi hz0 hz1 hz2 rfl (by decide) _ i _ rfl (hO.out.alloc _) ⟨wr.heap.size, 0, none⟩ 1 1 [.string pk, .string pv] rfl rfl (cell_two_new wr (.string pk) (.string pv) 43) (by simp [Value.oneCell']) (by unfold maxLen; omega) (by omega) (by have := hB.out.size; simp; omega) ?_; intro v' w3 hown3 hgrow3 _)
      have hO3 := hid (show w3.ownsRow w2.heap.size 43 2 v' (i + 1) (massC ((sortM L).take (i + 1))) by
        rw [List.take_add_one, HP.out, Option.toList_some, massC_append]; exact hown3)
      have hB3 : Hid (Below w2.heap.size w2 w3) := by
        refine (hB.out.alloc hB.out.size _).trans ⟨hgrow3.os, hgrow3.tape, hgrow3.output, hgrow3.size, fun k hk => hgrow3.block k (by have := hB.out.size; simp; omega) (fun e => ?_)⟩
        have := (hO.out.lt k e.symm).1
        omega
      clear hown3 hgrow3
      go_wp2_with fail
      go_roundw
      case rel => exact ⟨i + 1, by go_num, by omega, hO3, hB3⟩
      case measure => simp [intOf] <;> omega
    · obtain rfl : i = n := by omega
      have q1 : decide ((i : Int) < (i : Int)) = false := by simp
      have h := hO.out
      rw [List.take_of_length_le (by rw [HN.out]; exact Nat.le_refl _)] at h
      have hM := MRow.of_owns h
      have HM := hid hM
      have hB2 := hid (HB.out.trans (hB.out.mono HB.out.size))
      clear hlt hM h
      go_wp2_with fail
      go_ret
      exact ⟨⟨_, rfl, HM.out⟩, hB2.out⟩
end Go.Proofs.YtjgcjjbnnlnilaaGreatDoor

/- Walks: pick.law's errors, pick.Law, pick.Late. -/
namespace Go.Proofs.YtjgcjjbnnlnilaaGreatDoor
open Go.RowKit Go.Shelf Go.Maps
open Go.Lib (decDigits nDigits)
set_option linter.unusedVariables false
set_option linter.unusedSimpArgs false

/-- The error of a law. -/
def lawE (l : List ByteArray) (n : Int) : Int := if wsE l ≠ 0 then wsE l else if n < 0 ∨ 256 < n then 2 else 0

set_option maxRecDepth 100000 in
set_option maxHeartbeats 1000000 in
theorem p_lawE (w : World) (v : Value) (l : List ByteArray) (n : Int) (hv : Row w v (strs l)) (hl : ∀ x ∈ l, x.size ≤ 1000000) (he : lawE l n ≠ 0) :
    Calls Tryz.prog 56 #[v, .int .i64 n] w fun e w' => e = .returned (.tuple #[.map none, .int .i64 (lawE l n)]) ∧ Below w.heap.size w w' := by
  have PC := hid (p_check w v l hv hl)
  obtain ⟨a, c, rfl, q1, q2, -⟩ := hv.openS
  obtain ⟨N, hN⟩ : ∃ N, l.length = N := ⟨_, rfl⟩
  rw [hN] at PC q1 ⊢
  clear hv hl hN
  by_cases h1 : wsE l ≠ 0
  · have e1 : lawE l n = wsE l := by rw [lawE, if_pos h1]
    rw [e1]
    obtain ⟨z, hz⟩ : ∃ z, wsE l = z := ⟨_, rfl⟩
    rw [hz] at PC h1 ⊢
    have q0 : (z != 0) = true := by simpa using h1
    clear e1 he hz h1
    go_enter Tryz.func56, Tryz.ntmps56
    go_wp2_with fail
    refine PC.out.mono ?_; rintro e w1 ⟨rfl, hb1⟩
    go_wp2_with fail
    go_ret2
    exact ⟨rfl, hb1⟩
  · have h2 : wsE l = 0 := by simpa using h1
    have h3 : n < 0 ∨ 256 < n := by
      by_cases h3 : n < 0 ∨ 256 < n
      · exact h3
      · exact absurd (show lawE l n = 0 by rw [lawE, if_neg h1, if_neg h3]) he
    have e1 : lawE l n = 2 := by rw [lawE, if_neg h1, if_pos h3]
    rw [e1]
    rw [h2] at PC
    clear e1 he h1 h2
    by_cases h4 : n < 0
    · have q0 : decide (n < 0) = true := by simpa using h4
      clear h3 h4
      go_enter Tryz.func56, Tryz.ntmps56
      go_wp2_with fail
      refine PC.out.mono ?_; rintro e w1 ⟨rfl, hb1⟩
      go_wp2_with fail
      go_ret2
      exact ⟨rfl, hb1⟩
    · have q0 : decide (n < 0) = false := by simpa using h4
      have q1 : decide (256 < n) = true := by simp; omega
      clear h3 h4
      go_enter Tryz.func56, Tryz.ntmps56
      go_wp2_with fail
      refine PC.out.mono ?_; rintro e w1 ⟨rfl, hb1⟩
      go_wp2_with fail
      go_ret2
      exact ⟨rfl, hb1⟩

set_option maxRecDepth 100000 in
set_option maxHeartbeats 1000000 in
theorem p_listed_nil (w : World) :
    Calls Tryz.prog 57 #[.map none] w fun e w' => e = .returned (.slice none 0 0) ∧ Below w.heap.size w w' := by
  have HK := hid (callsIn_wide.1 (Tryz.maps_keys none w))
  have HS := hid (callsIn_wide.1 (Tryz.sorted_keys_nil w))
  go_enter Tryz.func57, Tryz.ntmps57
  go_wp2_with fail
  refine HK.out.mono ?_; rintro e w1 ⟨rfl, rfl⟩
  go_wp2_with fail
  refine HS.out.mono ?_; rintro e w2 ⟨v, ss, rfl, rfl, hown2, hnil, hb⟩
  obtain rfl := hnil.2 rfl
  have hB : Below w.heap.size w w2 := ((Below.refl _ _).alloc (Nat.le_refl _) _).trans (hb.mono (by simp))
  have HB := hid hB
  clear hown2 hnil hb hB
  go_wp2_with fail
  refine wp_loop_rounds 1 ?_; rw [rounds_succ]
  go_wp2_with fail
  go_ret
  exact ⟨rfl, HB.out⟩

/-- The law's distribution. -/
def lawR (l : List ByteArray) (n : Int) : List (ByteArray × ByteArray) := if lawE l n = 0 then sortM (lawP (l.map bN) (2 ^ n.toNat) l.length) else []

theorem lawE_ok {l : List ByteArray} {n : Int} (h : lawE l n = 0) : wsE l = 0 ∧ 0 ≤ n ∧ n ≤ 256 := by
  unfold lawE at h
  split at h
  · rename_i h1; exact absurd h h1
  · rename_i h1
    split at h
    · exact absurd h (by decide)
    · rename_i h2; exact ⟨by simpa using h1, by omega, by omega⟩

theorem lawP_keys {ws : List Nat} {t N : Nat} (hN : N ≤ 64) : ∀ p ∈ lawP ws t N, (keyL p).length ≤ 1000 := by
  intro p hp
  have h1 : ∀ p ∈ lawL ws t N, (keyL p).length ≤ 1000 := fun p hp => by
    obtain ⟨i, h1, -, rfl⟩ := lawL_mem.1 hp
    have := nDigits_le (n := i) (k := 2) (by omega) (by omega)
    simp only [keyL, numB_list, Lib.decDigits_length]
    omega
  unfold lawP at hp
  split at hp
  · exact h1 p hp
  · rcases List.mem_append.1 hp with hp | hp
    · exact h1 p hp
    · simp at hp
      subst hp
      have this : lateB.data.toList.length ≤ 1000 := by decide
      exact this

set_option maxRecDepth 100000 in
set_option maxHeartbeats 1000000 in
theorem p_Law (w : World) (v : Value) (l : List ByteArray) (n : Int) (hv : Row w v (strs l)) (hl : ∀ x ∈ l, x.size ≤ 1000000) (hL : Lay w) :
    Calls Tryz.prog 15 #[v, .int .i64 n] w fun e w' => (∃ u, e = .returned (.tuple #[u, .int .i64 (lawE l n)]) ∧ MRow w' u (lawR l n)) ∧ Below w.heap.size w w' := by
  by_cases he : lawE l n = 0
  · obtain ⟨h1, h2, h3⟩ := lawE_ok he
    obtain ⟨m, rfl⟩ : ∃ m : Nat, n = (m : Nat) := ⟨n.toNat, by omega⟩
    have P := hid (p_law (H := Unit) w v l m hv hl h1 (by omega) hL)
    have hlen := (wsE_ok h1).2.1.len
    rw [List.length_map] at hlen
    have er : lawR l (m : Nat) = sortM (lawP (l.map bN) (2 ^ m) l.length) := by rw [lawR, if_pos he, Int.toNat_natCast]
    rw [er, he]
    obtain ⟨ws, hws⟩ : ∃ ws, l.map bN = ws := ⟨_, rfl⟩
    obtain ⟨N, hN⟩ : ∃ N, l.length = N := ⟨_, rfl⟩
    rw [hws, hN] at P ⊢
    have hN64 : N ≤ 64 := by omega
    obtain ⟨a, c, rfl, -⟩ := hv.openS
    have K := hid (lawP_keys (ws := ws) (t := 2 ^ m) hN64)
    clear hv hl hL h1 h2 h3 hlen er he hws hN
    go_enter Tryz.func15, Tryz.ntmps15
    go_wp2_with fail
    refine P.out.mono ?_; rintro e w1 ⟨⟨B, rfl, hown⟩, hb1⟩
    have y1 := hid hb1
    have Q := hid (p_listed w1 B _ _ _ hown (reads_lawM ws (2 ^ m) N) (by have := lawP_length ws (2 ^ m) N; omega) K.out)
    clear hown hb1
    go_wp2_with fail
    refine Q.out.mono ?_; rintro e w2 ⟨⟨u, rfl, hu⟩, hb2⟩
    have hu2 := hid hu
    have y2 := hid (bnext y1.out hb2)
    clear hu hb2
    go_wp2_with fail
    go_ret2
    exact ⟨⟨_, rfl, hu2.out⟩, y2.out⟩
  · have P := hid (p_lawE w v l n hv hl he)
    have er : lawR l n = [] := by rw [lawR, if_neg he]
    rw [er]
    obtain ⟨a, c, rfl, -⟩ := hv.openS
    generalize lawE l n = z at *
    clear hv hl hL er he
    go_enter Tryz.func15, Tryz.ntmps15
    go_wp2_with fail
    refine P.out.mono ?_; rintro e w1 ⟨rfl, hb1⟩
    have y1 := hid hb1
    have Q := hid (p_listed_nil w1)
    clear hb1
    go_wp2_with fail
    refine Q.out.mono ?_; rintro e w2 ⟨rfl, hb2⟩
    have y2 := hid (bnext y1.out hb2)
    clear hb2
    go_wp2_with fail
    go_ret2
    exact ⟨⟨_, rfl, MRow.nil _⟩, y2.out⟩

/-- The probability of being late. -/
def lateR (l : List ByteArray) (n : Int) : ByteArray := if lawE l n = 0 then shB (2 ^ n.toNat - lwS (l.map bN) (2 ^ n.toNat) l.length) (2 ^ n.toNat) else ⟨#[]⟩

theorem shB_zero (t : Nat) : shB 0 t = ⟨#[48]⟩ := by
  have e : qmk false 0 t = 0 := by unfold qmk sgn; simp
  have h1 : ¬ ovQ 0 := by
    have : nDigits 0 ≤ 4000 := by rw [nDigits_zero]; omega
    have : nDigits 1 ≤ 4000 := by rw [nDigits_one]; omega
    unfold ovQ
    rw [show (0 : Rat).num.natAbs = 0 from rfl, show (0 : Rat).den = 1 from rfl]
    omega
  unfold shB
  rw [e]
  unfold outB
  rw [if_neg h1]
  apply ba_ext
  rw [txQ, txB_list, show (0 : Rat).num.natAbs = 0 from rfl, show (0 : Rat).den = 1 from rfl, show decide ((0 : Rat).num < 0) = false from rfl, dec_zero]
  rfl

theorem lookok_run {H : Type} {w : World} {B nn : Nat} {D : DataW H} {L : List (ByteArray × ByteArray)} (hown : w.ownsMap Tryz.prog 9 (plainElem Tryz.prog 23) B nn D) (hR : Reads D L) (k : ByteArray) (hk : k.size ≤ maxLen) :
    (∀ p ∈ L, p.1 = k → (Instr.lookup 80 (.map (some B)) (.string k) true).run Tryz.prog w = .ok (.tuple #[.string p.2, .bool true]) w) ∧
    ((∀ p ∈ L, p.1 ≠ k) → (Instr.lookup 80 (.map (some B)) (.string k) true).run Tryz.prog w = .ok (.tuple #[.string ⟨#[]⟩, .bool false]) w) := by
  have hk2 : keyOf Tryz.prog 9 (.string k) = some (.string k.data.toList) := by
    have := Go.WideMaps.keyOf_string_mk Tryz.underlying9 (s := k) (by simpa using hk)
    simpa using this
  obtain ⟨v, ps, h1, h2⟩ := hown.look_ok lawKeyed Tryz.underlying80 (zero_num w) (plainElem_string Tryz.underlying23 (s := ⟨#[]⟩) (Nat.zero_le _)) hk2
  constructor
  · rintro p hp rfl
    rw [show D.atKey (.string p.1.data.toList) (.lit (.string (⟨#[]⟩ : ByteArray).data.toList)) = .lit (.string p.2.data.toList) from hR.look p hp _] at h2
    obtain ⟨s, rfl, h3, -⟩ := plainElem_string_inv Tryz.underlying23 h2
    simp only [Prod.mk.injEq, DataW.lit.injEq, Lit.string.injEq] at h3
    rw [h1, ba_ext h3.1, (hR.has p.1.data.toList).2 (List.mem_map_of_mem (f := keyL) hp)]
  · intro hn
    have hh : Maps.has D (.string k.data.toList) = false := by
      cases hc : Maps.has D (.string k.data.toList)
      · rfl
      · obtain ⟨p, hp, e⟩ := List.mem_map.1 ((hR.has _).1 hc)
        exact absurd (ba_ext e) (hn p hp)
    rw [atKey_of_not_has hh] at h2
    obtain ⟨s, rfl, h3, -⟩ := plainElem_string_inv Tryz.underlying23 h2
    simp only [Prod.mk.injEq, DataW.lit.injEq, Lit.string.injEq] at h3
    rw [h1, hh, ← ba_ext (a := ⟨#[]⟩) (b := s) h3.1]

theorem lawP_late {ws : List Nat} {t N : Nat} : (t - lwS ws t N ≠ 0 → (lateB, shB (t - lwS ws t N) t) ∈ lawP ws t N) ∧ (t - lwS ws t N = 0 → ∀ p ∈ lawP ws t N, p.1 ≠ lateB) := by
  constructor
  · intro h
    rw [lawP, if_neg h]
    simp
  · intro h p hp e
    rw [lawP, if_pos h] at hp
    obtain ⟨i, -, -, rfl⟩ := lawL_mem.1 hp
    exact numB_late i (congrArg (fun b => b.data.toList) e)

set_option maxRecDepth 100000 in
set_option maxHeartbeats 1000000 in
theorem p_Late (w : World) (v : Value) (l : List ByteArray) (n : Int) (hv : Row w v (strs l)) (hl : ∀ x ∈ l, x.size ≤ 1000000) (hL : Lay w) :
    Calls Tryz.prog 17 #[v, .int .i64 n] w fun e w' => e = .returned (.tuple #[.string (lateR l n), .int .i64 (lawE l n)]) ∧ Below w.heap.size w w' := by
  by_cases he : lawE l n = 0
  · obtain ⟨h1, h2, h3⟩ := lawE_ok he
    obtain ⟨m, rfl⟩ : ∃ m : Nat, n = (m : Nat) := ⟨n.toNat, by omega⟩
    have P := hid (p_law (H := Unit) w v l m hv hl h1 (by omega) hL)
    have er : lateR l (m : Nat) = shB (2 ^ m - lwS (l.map bN) (2 ^ m) l.length) (2 ^ m) := by rw [lateR, if_pos he, Int.toNat_natCast]
    rw [er, he]
    obtain ⟨ws, hws⟩ : ∃ ws, l.map bN = ws := ⟨_, rfl⟩
    obtain ⟨N, hN⟩ : ∃ N, l.length = N := ⟨_, rfl⟩
    rw [hws, hN] at P ⊢
    obtain ⟨a, c, rfl, -⟩ := hv.openS
    obtain ⟨k1, k2⟩ := lawP_late (ws := ws) (t := 2 ^ m) (N := N)
    have K1 := hid k1; have K2 := hid k2
    clear hv hl hL h1 h2 h3 er he hws hN k1 k2
    by_cases hz : 2 ^ m - lwS ws (2 ^ m) N = 0
    · rw [hz, shB_zero]
      go_enter Tryz.func17, Tryz.ntmps17
      go_wp2_with fail
      refine P.out.mono ?_; rintro e w1 ⟨⟨B, rfl, hown⟩, hb1⟩
      have y1 := hid hb1
      obtain ⟨c1, c2⟩ := lookok_run hown (reads_lawM ws (2 ^ m) N) lateB (by unfold maxLen; decide)
      have hrun := c2 (K2.out hz)
      unfold lateB at hrun
      clear c1 c2 hown hb1 hz
      go_wp2_with fail
      go_ret2
      exact ⟨rfl, y1.out⟩
    · obtain ⟨S, hS⟩ : ∃ S, shB (2 ^ m - lwS ws (2 ^ m) N) (2 ^ m) = S := ⟨_, rfl⟩
      have k3 := K1.out hz
      rw [hS] at k3 ⊢
      have K3 := hid k3
      clear k3 hS
      go_enter Tryz.func17, Tryz.ntmps17
      go_wp2_with fail
      refine P.out.mono ?_; rintro e w1 ⟨⟨B, rfl, hown⟩, hb1⟩
      have y1 := hid hb1
      obtain ⟨c1, c2⟩ := lookok_run hown (reads_lawM ws (2 ^ m) N) lateB (by unfold maxLen; decide)
      have hrun := c1 _ K3.out rfl
      unfold lateB at hrun
      dsimp only at hrun
      clear c1 c2 hown hb1 hz
      go_wp2_with fail
      go_ret2
      exact ⟨rfl, y1.out⟩
  · have P := hid (p_lawE w v l n hv hl he)
    have er : lateR l n = ⟨#[]⟩ := by rw [lateR, if_neg he]
    rw [er]
    obtain ⟨a, c, rfl, -⟩ := hv.openS
    obtain ⟨z, hz⟩ : ∃ z, lawE l n = z := ⟨_, rfl⟩
    rw [hz] at P he ⊢
    have q0 : (z != 0) = true := by simpa using he
    clear hv hl hL er he hz
    go_enter Tryz.func17, Tryz.ntmps17
    go_wp2_with fail
    refine P.out.mono ?_; rintro e w1 ⟨rfl, hb1⟩
    have y1 := hid hb1
    clear hb1
    go_wp2_with fail
    go_ret2
    exact ⟨rfl, y1.out⟩
end Go.Proofs.YtjgcjjbnnlnilaaGreatDoor

/- Walks: the examples of the chapter of pick. -/
namespace Go.Proofs.YtjgcjjbnnlnilaaGreatDoor
open Go.RowKit Go.Shelf
open Go.Lib (decDigits nDigits)
set_option linter.unusedVariables false
set_option linter.unusedSimpArgs false

theorem ne_zero_num {n : Nat} (h : n ≠ 0) : decide (numB n ≠ (⟨#[48]⟩ : ByteArray)) = true := by
  rw [← numB_zero]
  exact decide_eq_true (numB_ne h)

theorem nd_lt10 {n : Nat} (h : n < 10) : nDigits n = 1 := Lib.nDigits_small h
theorem numB_two' : numB 2 = ⟨#[50]⟩ := by unfold numB; rw [decDigits_small (by omega)]; rfl

theorem ex_ws : wsE [⟨#[49]⟩, ⟨#[50]⟩, ⟨#[49]⟩] = 0 := by
  rw [← numB_one, ← numB_two']
  have e1 : errN (numB 1).data.toList = 0 := errN_numB (by rw [nd_lt10 (by omega)]; omega)
  have e2 : errN (numB 2).data.toList = 0 := errN_numB (by rw [nd_lt10 (by omega)]; omega)
  have s1 : (numB 1).size = 1 := by rw [numB_size, nd_lt10 (by omega)]
  have s2 : (numB 2).size = 1 := by rw [numB_size, nd_lt10 (by omega)]
  have hw : wtE [numB 1, numB 2, numB 1] = 0 := by
    simp [wtE, e1, e2, s1, s2]
  unfold wsE
  rw [if_neg (by simp), if_neg (by rw [hw]; simp), if_pos]
  simp only [List.any_cons, ne_zero_num (show 1 ≠ 0 by omega), Bool.true_or]

theorem ex_bN : [(⟨#[49]⟩ : ByteArray), ⟨#[50]⟩, ⟨#[49]⟩].map bN = [1, 2, 1] := by
  rw [← numB_one, ← numB_two']
  simp only [List.map_cons, List.map_nil, bN_num]

theorem ex_draw : dr3 [⟨#[49]⟩, ⟨#[50]⟩, ⟨#[49]⟩] ⟨#[48, 49]⟩ = (true, 1, 2) ∧ drE [⟨#[49]⟩, ⟨#[50]⟩, ⟨#[49]⟩] ⟨#[48, 49]⟩ = 0 := by
  have hE : drE [⟨#[49]⟩, ⟨#[50]⟩, ⟨#[49]⟩] ⟨#[48, 49]⟩ = 0 := by
    unfold drE
    rw [ex_ws]
    decide
  refine ⟨?_, hE⟩
  unfold dr3
  rw [if_pos hE, ex_bN]
  show pdr (pkF [1, 2, 1]) 0 1 [48, 49] = _
  rw [pdr_next (by decide), pdr_next (by decide), pdr_done (by decide)]
  decide

theorem ex_below : bw3 6 ⟨#[49, 49, 49, 49]⟩ = (true, 5, 3) ∧ bwE 6 ⟨#[49, 49, 49, 49]⟩ = 0 := by
  have hE : bwE 6 ⟨#[49, 49, 49, 49]⟩ = 0 := by decide
  refine ⟨?_, hE⟩
  unfold bw3
  rw [if_pos hE]
  show pdr (bwF 6) 0 1 [49, 49, 49, 49] = _
  rw [pdr_next (by decide), pdr_next (by decide), pdr_next (by decide), pdr_done (by decide)]
  decide

set_option maxRecDepth 100000 in
set_option maxHeartbeats 4000000 in
theorem w_lives (w : World) (hL : Lay w) :
    Calls Tryz.prog 8 #[] w fun e w' => e = .returned (.bool true) ∧ Below w.heap.size w w' := by
  have A0 := hid ((Below.refl w.heap.size w).alloc (Nat.le_refl _) (.cells #[.string ⟨#[49]⟩, .string ⟨#[50]⟩, .string ⟨#[49]⟩] 23))
  have X0 := Blk.new w #[.string ⟨#[49]⟩, .string ⟨#[50]⟩, .string ⟨#[49]⟩] 23
  have R0 := hid (Row.of_blk (n := 3) (xs := strs [⟨#[49]⟩, ⟨#[50]⟩, ⟨#[49]⟩]) X0 rfl (by decide) (fun i x h => by
    rcases i with _ | _ | _ | i <;> simp [strs] at h ⊢ <;> exact h) (Nat.le_refl 3) (by decide))
  have HL := hid hL
  have PD := fun V hV hLV => hid (p_Draw V (.slice (some ⟨w.heap.size, 0, none⟩) 3 3) [⟨#[49]⟩, ⟨#[50]⟩, ⟨#[49]⟩] ⟨#[48, 49]⟩ hV (by intro x hx; simp at hx; rcases hx with rfl | rfl | rfl <;> decide) (by decide) hLV)
  have PB := fun V hLV => hid (p_Below V 6 ⟨#[49, 49, 49, 49]⟩ (by decide) hLV)
  rw [ex_draw.1, ex_draw.2] at PD
  rw [ex_below.1, ex_below.2] at PB
  simp only [dw3] at PD PB
  clear hL X0
  go_enter Tryz.func8, Tryz.ntmps8
  go_wp2_with fail
  refine (PD _ R0.out (HL.out.call A0.out)).out.mono ?_; rintro e w1 ⟨rfl, hb1⟩
  have y1 := hid (A0.out.trans (hb1.mono A0.out.size)); clear hb1
  go_wp2_with fail
  have X1 := hid (Blk.new w1 #[.bool true, .int .i64 1, .int .i64 2] 29)
  have z1 := hid ((Below.refl w1.heap.size w1).alloc (Nat.le_refl _) (.cells #[.bool true, .int .i64 1, .int .i64 2] 29))
  refine (PB _ ((HL.out.call y1.out).call z1.out)).out.mono ?_; rintro e w2 ⟨rfl, hb2⟩
  have y2 := hid (bnext y1.out (z1.out.trans (hb2.mono z1.out.size)))
  have X2 := hid ((X1.out.call hb2).alloc (.cells #[.bool true, .int .i64 5, .int .i64 3] 29))
  have r0 := X2.out.cell 0
  have r1 := X2.out.cell 1
  have r2 := X2.out.cell 2
  simp at r0 r1 r2
  clear hb2
  go_wp2_with fail
  go_ret
  exact ⟨rfl, y2.out.alloc y2.out.size _⟩
end Go.Proofs.YtjgcjjbnnlnilaaGreatDoor

/- Walks: law05.long, kit.Pick. -/
namespace Go.Proofs.YtjgcjjbnnlnilaaGreatDoor
open Go.RowKit Go.Shelf
open Go.Lib (decDigits nDigits)
set_option linter.unusedVariables false
set_option linter.unusedSimpArgs false

/-- What long reports. -/
def longB (l : List ByteArray) : Bool := l.any (fun b => decide (300 < b.size)) || decide (70 < l.length)

set_option maxRecDepth 100000 in
set_option maxHeartbeats 1000000 in
theorem p_long (w : World) (v : Value) (l : List ByteArray) (h : Row w v (strs l)) :
    Calls Tryz.prog 9 #[v] w fun e w' => e = .returned (.bool (longB l)) ∧ w = w' := by
  obtain ⟨a, c, rfl, h1, h2, h3⟩ := h.openS
  obtain ⟨n, hn⟩ : ∃ n, l.length = n := ⟨_, rfl⟩
  rw [hn] at h1 ⊢
  have H3 := hid h3; have HN := hid hn
  clear h h3 hn
  go_enter Tryz.func9, Tryz.ntmps9
  go_wp2_with fail
  go_loop [3] (fun ii => ∃ i : Nat, ii = .int .i64 i ∧ i ≤ n ∧ Hid (∀ (j : Nat) (b : ByteArray), j < i → l[j]? = some b → ¬ 300 < b.size)) (fun ii => n - (intOf ii).toNat)
  case atStart => exact ⟨0, rfl, Nat.zero_le _, fun j b hj => absurd hj (by omega)⟩
  case round =>
    obtain ⟨i, rfl, hi, hI⟩ := hrel
    by_cases hlt : i < n
    · obtain ⟨x, hx⟩ : ∃ x, l[i]? = some x := ⟨_, List.getElem?_eq_getElem (by rw [HN.out]; exact hlt)⟩
      obtain ⟨g, o, rfl, hg, hc⟩ := H3.out i x hx
      have HX := hid hx
      have b1 : (0 : Int) ≤ (i : Int) := by omega
      have b2 : (i : Int) < (n : Int) := by omega
      have wi : IntKind.i64.wrap ((i : Int) + 1) = (i : Int) + 1 := by rw [IntWalk.i64_in _ ⟨by omega, by omega⟩]
      by_cases hb : 300 < x.size
      · have q0 : decide ((300 : Int) < (x.size : Int)) = true := by simp; omega
        have HB := hid hb
        have hL : longB l = true := by
          unfold longB
          rw [Bool.or_eq_true]
          exact .inl (List.any_eq_true.2 ⟨x, List.mem_of_getElem? hx, by simpa using hb⟩)
        have HLB := hid hL
        clear hb hx hL
        go_wp2_with fail
        go_ret
        exact ⟨by rw [HLB.out]; rfl, rfl⟩
      · have q0 : decide ((300 : Int) < (x.size : Int)) = false := by simp; omega
        have HB := hid hb
        clear hb hx
        go_wp2_with fail
        go_round
        case rel => exact ⟨i + 1, rfl, by omega, fun j b hj he => by
          rcases Nat.lt_or_ge j i with h | h
          · exact hI.out j b h he
          · obtain rfl : j = i := by omega
            rw [HX.out] at he; cases he; exact HB.out⟩
        case measure => simp [intOf] <;> omega
    · obtain rfl : i = n := by omega
      have hL : longB l = decide ((70 : Int) < (i : Int)) := by
        unfold longB
        have : l.any (fun b => decide (300 < b.size)) = false := by
          rw [List.any_eq_false]
          intro x hx
          obtain ⟨j, hj, rfl⟩ := List.getElem_of_mem hx
          simpa using hI.out j l[j] (by rw [HN.out] at hj; exact hj) (List.getElem?_eq_getElem hj)
        rw [this, HN.out, Bool.false_or, decide_eq_decide]
        omega
      have HLB := hid hL
      clear hlt hL
      have q1 : decide ((i : Int) < (i : Int)) = false := by simp
      go_wp2_with fail
      go_ret
      exact ⟨by rw [HLB.out]; rfl, rfl⟩

/-- What Pick selects. -/
theorem k_Pick (w : World) (x : Int) (n : Nat) (h0 : 0 < n) (hn : n ≤ 1000000) (h1 : -9223372036854775808 ≤ x) (h2 : x ≤ 9223372036854775807) :
    ∃ i : Nat, i < n ∧ Calls Tryz.prog 10 #[.int .i64 x, .int .i64 (n : Nat)] w fun e w' => e = .returned (.int .i64 (i : Nat)) ∧ w = w' := by
  have r1 := Int.tmod_lt_of_pos x (show (0 : Int) < n by omega)
  have r2 := Int.lt_tmod_of_pos x (show (0 : Int) < n by omega)
  obtain ⟨r, hr⟩ : ∃ r, x.tmod (n : Int) = r := ⟨_, rfl⟩
  rw [hr] at r1 r2
  have e0 : IntKind.i64.wrap r = r := by rw [IntWalk.i64_in _ ⟨by omega, by omega⟩]
  have hz : ((n : Int) == 0) = false := by rw [beq_eq_false_iff_ne]; omega
  by_cases hneg : r < 0
  · have q0 : decide (r < 0) = true := by simp; omega
    obtain ⟨i, hi⟩ : ∃ i : Nat, r + (n : Int) = i := ⟨(r + n).toNat, by omega⟩
    have e1 : IntKind.i64.wrap (r + (n : Int)) = r + (n : Int) := by rw [IntWalk.i64_in _ ⟨by omega, by omega⟩]
    refine ⟨i, by omega, ?_⟩
    rw [← hi]
    clear hi hneg
    go_enter Tryz.func10, Tryz.ntmps10
    go_wp2_with fail
    go_ret
    exact ⟨rfl, rfl⟩
  · have q0 : decide (r < 0) = false := by simp; omega
    obtain ⟨i, hi⟩ : ∃ i : Nat, r = i := ⟨r.toNat, by omega⟩
    refine ⟨i, by omega, ?_⟩
    rw [← hi]
    clear hi hneg
    go_enter Tryz.func10, Tryz.ntmps10
    go_wp2_with fail
    go_ret
    exact ⟨rfl, rfl⟩
end Go.Proofs.YtjgcjjbnnlnilaaGreatDoor

/- Plain: what a factor changes in weights: nothing; equal weights draw what Below draws. -/
namespace Go.Proofs.YtjgcjjbnnlnilaaGreatDoor
open Go.RowKit
open Go.Lib (decDigits nDigits)
set_option linter.unusedVariables false

theorem wtE_nums : ∀ (ws : List Nat), (∀ x ∈ ws, nDigits x ≤ 3800) → wtE (ws.map numB) = 0
  | [], _ => rfl
  | x :: r, h => by
    have h1 := h x (List.mem_cons_self ..)
    rw [List.map_cons, wtE, if_neg (by rw [errN_numB (by omega)]; simp), if_neg (by rw [numB_size]; omega)]
    exact wtE_nums r (fun y hy => h y (List.mem_cons_of_mem _ hy))

theorem any_nums (ws : List Nat) : (ws.map numB).any (fun b => decide (b ≠ ⟨#[48]⟩)) = ws.any (fun x => decide (x ≠ 0)) := by
  rw [List.any_map]
  congr 1
  funext x
  simp only [Function.comp]
  rw [decide_eq_decide]
  constructor
  · intro h e; exact h (by rw [e, numB_zero])
  · intro h e
    rw [← numB_zero] at e
    exact numB_ne h e

theorem wsE_nums {ws : List Nat} (h : ∀ x ∈ ws, nDigits x ≤ 3800) : wsE (ws.map numB) = if ws.length = 0 ∨ 64 < ws.length then 2 else if ws.any (fun x => decide (x ≠ 0)) = true then 0 else 6 := by
  unfold wsE
  rw [List.length_map, wtE_nums ws h, any_nums]
  simp only [ne_eq, not_true_eq_false, if_false]

theorem nums_bN (ws : List Nat) : (ws.map numB).map bN = ws := by
  rw [List.map_map]
  conv => rhs; rw [← List.map_id ws]
  exact List.map_congr_left fun x _ => bN_num x

/-- Equal weights. -/
def onesL (k : Nat) : List ByteArray := (List.replicate k 1).map numB
theorem ones_wsE {k : Nat} (h1 : 1 ≤ k) (h2 : k ≤ 64) : wsE (onesL k) = 0 := by
  unfold onesL
  rw [wsE_nums (fun x hx => by rw [List.eq_of_mem_replicate hx, nDigits_one]; omega), List.length_replicate, if_neg (by omega), if_pos]
  rw [List.any_eq_true]
  exact ⟨1, List.mem_replicate.2 ⟨by omega, rfl⟩, by decide⟩
theorem ones_draw {k : Nat} (h1 : 1 ≤ k) (h2 : k ≤ 64) (b : ByteArray) : drE (onesL k) b = bwE k b ∧ dr3 (onesL k) b = bw3 k b := by
  have e1 : drE (onesL k) b = chkE b := by rw [drE, if_neg (by rw [ones_wsE h1 h2]; simp)]
  have e2 : bwE k b = chkE b := by rw [bwE, if_neg (by omega)]
  refine ⟨by rw [e1, e2], ?_⟩
  rw [dr3, bw3, e1, e2]
  split
  · unfold onesL
    rw [nums_bN, Int.toNat_natCast]
    exact pdr_congr (fun x t hx => pkF_ones (by omega) hx) _ _ _ (by omega)
  · rfl

theorem cnt_scl' {c : Nat} (hc : 0 < c) (ws : List Nat) (t : Nat) : cnt (scl c ws) t = cnt ws t := by
  funext i
  unfold cnt
  rw [(cnt_scl hc ws t i).1, (cnt_scl hc ws t i).2]
theorem lwS_scl {c : Nat} (hc : 0 < c) (ws : List Nat) (t : Nat) : ∀ i, lwS (scl c ws) t i = lwS ws t i
  | 0 => rfl
  | i + 1 => by unfold lwS; rw [lwS_scl hc ws t i, cnt_scl' hc]
theorem lawL_scl {c : Nat} (hc : 0 < c) (ws : List Nat) (t : Nat) : ∀ i, lawL (scl c ws) t i = lawL ws t i
  | 0 => rfl
  | i + 1 => by unfold lawL; rw [lawL_scl hc ws t i, (cnt_scl hc ws t i).1, (cnt_scl hc ws t i).2, cnt_scl' hc]
theorem lawP_scl {c : Nat} (hc : 0 < c) (ws : List Nat) (t N : Nat) : lawP (scl c ws) t N = lawP ws t N := by
  unfold lawP
  rw [lwS_scl hc, lawL_scl hc]

theorem scl_all {ws : List Nat} {c : Nat} (hc : 0 < c) (h1 : ∀ x ∈ ws, nDigits x ≤ 3800) (h2 : ∀ x ∈ ws, nDigits (x * c) ≤ 3800) (b : ByteArray) (n : Int) :
    drE ((scl c ws).map numB) b = drE (ws.map numB) b ∧ dr3 ((scl c ws).map numB) b = dr3 (ws.map numB) b ∧ lawE ((scl c ws).map numB) n = lawE (ws.map numB) n ∧ lawR ((scl c ws).map numB) n = lawR (ws.map numB) n := by
  have ew : wsE ((scl c ws).map numB) = wsE (ws.map numB) := by
    rw [wsE_nums h1, wsE_nums (fun x hx => by obtain ⟨y, hy, rfl⟩ := List.mem_map.1 hx; exact h2 y hy), scl_len]
    congr 2
    unfold scl
    rw [List.any_map]
    congr 2
    funext x
    simp only [Function.comp]
    rw [decide_eq_decide]
    have : x * c ≠ 0 ↔ x ≠ 0 := ⟨fun h e => h (by rw [e, Nat.zero_mul]), fun h => Nat.mul_ne_zero h (by omega)⟩
    exact this
  have e1 : drE ((scl c ws).map numB) b = drE (ws.map numB) b := by unfold drE; rw [ew]
  have e2 : lawE ((scl c ws).map numB) n = lawE (ws.map numB) n := by unfold lawE; rw [ew]
  refine ⟨e1, ?_, e2, ?_⟩
  · unfold dr3
    rw [e1, nums_bN, nums_bN, pkF_scl hc]
  · unfold lawR
    rw [e2, nums_bN, nums_bN, lawP_scl hc, List.length_map, List.length_map, scl_len]
end Go.Proofs.YtjgcjjbnnlnilaaGreatDoor

/- Walks: the reference's Write. -/
namespace Go.Proofs.YtjgcjjbnnlnilaaGreatDoor
open Go.RowKit
open Go.Lib (decDigits nDigits)
set_option linter.unusedVariables false

theorem make_bytes (n : Nat) (hn : n ≤ 100000000) (W : World) : (Instr.makeSlice 100 (.int .i64 (n : Int)) (.int .i64 (n : Int))).run Tryz.prog W = .ok (.slice (some ⟨W.heap.size, 0, none⟩) n n) (W.alloc (.cells (madeCells #[.int .u8 0] n) 5)) :=
  run_make_row' (P := Tryz.prog) 100 5 (.int .u8 0) 1 Tryz.underlying100 (by kernel_rfl) rfl .i64 .i64 n (by omega) (by omega) W

theorem r1_Write_zero (w : World) (v : Value) (h : IsN .i64 w v 0) : Calls Tryz.prog 62 #[v] w fun e w' => e = .returned (numV 0) ∧ Below w.heap.size w w' := by
  obtain ⟨a, c, rfl, _⟩ := h.openI
  have hl : (limbs 0).length = 0 := by rw [limbs_zero]; rfl
  rw [hl]
  have e : numV 0 = .string ⟨#[48]⟩ := by rw [numV, dec_zero]
  have E := hid e
  clear h hl e
  go_enter Tryz.func62, Tryz.ntmps62
  go_wp2_with fail
  go_ret
  exact ⟨by rw [E.out]; rfl, Below.refl _ _⟩

set_option maxRecDepth 100000 in
set_option maxHeartbeats 1000000 in
theorem r1_Write_pos (w : World) (v : Value) (n : Nat) (h : IsN .i64 w v n) (h0 : 0 < n) (hl : (limbs n).length ≤ 1000000) : Calls Tryz.prog 62 #[v] w fun e w' => e = .returned (numV n) ∧ Below w.heap.size w w' := by
  obtain ⟨a, c, rfl, h1, h2, h3⟩ := h.openI
  have H3 := hid h3; clear h3 h
  obtain ⟨L, hL⟩ : ∃ L, (limbs n).length = L := ⟨_, rfl⟩
  have hLp : 0 < L := by rw [← hL]; exact List.length_pos_iff.2 (fun e => by have := limbs_nil.1 e; omega)
  rw [hL] at h1 hl ⊢
  have HL := hid hL; clear hL
  have q0 : ((L : Int) == 0) = false := by simp; omega
  have hmk : ∀ W : World, (Instr.makeSlice 100 (.int .i64 (9 * (L : Int))) (.int .i64 (9 * (L : Int)))).run Tryz.prog W = .ok (.slice (some ⟨W.heap.size, 0, none⟩) (9 * L) (9 * L)) (W.alloc (.cells (madeCells #[.int .u8 0] (9 * L)) 5)) := fun W => by
    have := make_bytes (9 * L) (by omega) W
    rwa [Int.natCast_mul] at this
  go_enter Tryz.func62, Tryz.ntmps62
  go_wp2_with fail
  clear hmk q0
  go_loopw [4, 5, 6] (fun ii nn kk wr => ∃ (i : Nat) (bs : List UInt8), ii = .int .i64 i ∧ i ≤ L ∧ Hid (WrI n i bs) ∧ Hid (BArr 5 wr w.heap.size bs) ∧ Hid (Below w.heap.size w wr)) (fun ii _ _ _ => L - (intOf ii).toNat)
  case atStart => exact ⟨0, _, rfl, Nat.zero_le _, WrI.start n, by rw [HL.out]; exact BArr.made w 5 (9 * L), (Below.refl _ _).alloc (Nat.le_refl _) _⟩
  case round =>
    obtain ⟨i, bs, rfl, hi, hW, hO, hB⟩ := hrel
    by_cases hlt : i < L
    · obtain ⟨x, hx⟩ : ∃ x, (limbs n)[L - 1 - i]? = some x := ⟨_, List.getElem?_eq_getElem (by rw [HL.out]; omega)⟩
      obtain ⟨g, o, rfl, hg, hc⟩ := H3.out _ x hx
      have d1 := (hB.out.cell (p := ⟨g, o + (L - 1 - i), none⟩) hg).trans hc
      have hxl := (sm_limbs n).get hx
      have HX := hid hx; clear hx hc
      go_wp2_with fail
      go_loopw [5, 6] (fun nn kk wq => ∃ (k y : Nat) (t : Int) (bs : List UInt8), nn = .int .i64 y ∧ kk = .int .i64 t ∧ t = (k : Int) - 1 ∧ k ≤ 9 ∧ y < 1000000000 ∧ Hid (WrJ n i x k y bs) ∧ Hid (BArr 5 wq w.heap.size bs) ∧ Hid (Below w.heap.size w wq)) (fun _ kk _ => (intOf kk + 1).toNat)
      case atStart => exact ⟨9, x, _, bs, rfl, rfl, by omega, by omega, hxl, hW.out.enter, hO, hB⟩
      case round =>
        obtain ⟨k, y, t, bs2, rfl, rfl, ht, hk, hy, hJ, hO2, hB2⟩ := hrel
        have hbl := hid (show bs2.length = 9 * L from by rw [hJ.out.len, HL.out])
        cases k with
        | zero =>
          obtain rfl : t = -1 := by omega
          clear ht
          have HN := hid (hJ.out.leave (by rw [HL.out]; exact HX.out) (by rw [HL.out]; exact hlt))
          go_wp2_with fail
          go_roundw
          case rel => exact ⟨i + 1, bs2, by go_num, by omega, HN, hO2, hB2⟩
          case measure => simp [intOf] <;> omega
        | succ k =>
          obtain rfl : t = (k : Int) := by omega
          clear ht
          have HN := hid (hJ.out.next (by omega) (by rw [HL.out]; exact hlt))
          obtain ⟨z, hz⟩ : ∃ z, bs2[9 * i + k]? = some z := ⟨_, List.getElem?_eq_getElem (by rw [hbl.out]; omega)⟩
          have d3 := hO2.out.cell hz
          have d4 := hO2.out.free (9 * i + k)
          clear hz
          go_wp2_with fail
          go_roundw
          case rel =>
            refine ⟨k, y / 10, _, bs2.set (9 * i + k) (UInt8.ofNat (48 + y % 10)), by go_num, rfl, by omega, by omega, by omega, HN, ?_, below_set hB2.out (Nat.le_refl _) _⟩
            have hz : (48 + (y : Int) % 10) = ((UInt8.ofNat (48 + y % 10)).toNat : Int) := by rw [digit_ofNat (by omega)]; omega
            rw [hz]
            exact hO2.out.set _ _
          case measure => simp [intOf] <;> omega
    · obtain rfl : i = L := by omega
      obtain ⟨hdig, hval⟩ := WrI.done (by have := hW.out; rw [← HL.out] at this; exact this)
      have HD := hid hdig; have HV := hid hval
      have hbl := hid (show bs.length = 9 * i from by rw [hW.out.len, HL.out])
      clear hdig hval
      go_wp2_with fail
      go_loop [3] (fun b => ∃ r : Nat, r + 1 ≤ 9 * i ∧ b = .slice (some ⟨w.heap.size, r, none⟩) (9 * i - r) (9 * i - r) ∧ Hid (dv (bs.drop r) = n)) (fun b => match b with | .slice _ m _ => m | _ => 0)
      case atStart => exact ⟨0, by omega, rfl, by rw [Hid, List.drop_zero]; exact HV.out⟩
      case round =>
        obtain ⟨r, hr, rfl, hv⟩ := hrel
        obtain ⟨z, hz⟩ : ∃ z, bs[r]? = some z := ⟨_, List.getElem?_eq_getElem (by rw [hbl.out]; omega)⟩
        have d3 := hO.out.cell hz
        obtain ⟨m, hm⟩ : ∃ m, m = 9 * i - r := ⟨_, rfl⟩
        rw [← hm]
        have hm1 : 1 ≤ m := by omega
        have hm9 : m ≤ 9000000 := by omega
        have HM := hid hm
        by_cases hgo : 1 < m ∧ z = 48
        · obtain ⟨g1, rfl⟩ := hgo
          have q1 : decide ((1 : Int) < (m : Int)) = true := by simp; omega
          have HN := hid (dv_zero_head hz)
          clear hz hm
          go_wp2_with fail
          go_round
          case rel => exact ⟨r + 1, by have := HM.out; omega, by rw [show 9 * i - (r + 1) = m - 1 by have := HM.out; omega], by rw [Hid, HN.out]; exact hv.out⟩
          case measure => simp; omega
        · have hfin := hid (strip_done HD.out hv.out (by rw [hbl.out]; omega) (by
            rw [hbl.out]
            by_cases h1 : 1 < m
            · right
              rw [hz]
              intro e
              injection e with e
              exact hgo ⟨h1, e⟩
            · left; omega))
          have hcv : (convert 100 9 (.slice (some ⟨w.heap.size, r, none⟩) m m)).run Tryz.prog wr = .ok (numV n) wr := by
            have hlen : (bs.drop r).length = m := by rw [List.length_drop, hbl.out, hm]
            have := Go.run_convert_bytes_back (P := Tryz.prog) wr 100 9 5 ⟨w.heap.size, r, none⟩ m (bs.drop r) Tryz.underlying100 Tryz.underlying5 Tryz.underlying9 (fun j hj => by
              rw [Addr.add_lit]
              refine hO.out.cell ?_
              have h2 : r + j < bs.length := by rw [hlen] at hj; rw [hbl.out]; omega
              rw [List.getElem?_eq_getElem h2, List.getElem_drop])
            rw [hlen, hfin.out] at this
            exact this
          by_cases h1 : 1 < m
          · have q1 : decide ((1 : Int) < (m : Int)) = true := by simp; omega
            have q2 : ((z.toNat : Int) == 48) = false := by
              rw [beq_eq_false_iff_ne]
              intro e
              refine hgo ⟨h1, ?_⟩
              have : z.toNat = (48 : UInt8).toNat := by simp; omega
              exact UInt8.toNat_inj.1 this
            clear hz hm hgo h1
            go_wp2_with fail
            go_ret
            exact ⟨rfl, hB.out⟩
          · obtain rfl : m = 1 := by omega
            clear hz hm hgo h1
            go_wp2_with fail
            go_ret
            exact ⟨rfl, hB.out⟩
end Go.Proofs.YtjgcjjbnnlnilaaGreatDoor

/- Walks: the reference's Check. -/
namespace Go.Proofs.YtjgcjjbnnlnilaaGreatDoor
open Go.RowKit
open Go.Lib (decDigits nDigits)
set_option linter.unusedVariables false

set_option maxRecDepth 100000 in
set_option maxHeartbeats 1000000 in
theorem r1_Check (w : World) (s : ByteArray) (hs : s.size ≤ 9223372036854775807) : Calls Tryz.prog 13 #[.string s] w fun e w' => e = .returned (.int .i64 (errN s.data.toList)) ∧ w = w' := by
  have hsl := hid (show s.data.toList.length = s.size from by simp)
  by_cases h0 : s.size = 0
  · have hnil : s.data.toList = [] := List.eq_nil_of_length_eq_zero (by rw [hsl.out, h0])
    obtain rfl : s = ⟨#[]⟩ := by
      cases s with
      | mk d => simp at hnil; rw [hnil]
    clear hsl h0 hnil hs
    go_enter Tryz.func13, Tryz.ntmps13
    go_wp2_with fail
    go_ret
    exact ⟨ret_int (by rw [errN_bad]; exact fun h => h.1 rfl), rfl⟩
  · have hpos : 0 < s.size := by omega
    have hne : s.data.toList.isEmpty = false := by
      rw [List.isEmpty_eq_false_iff]
      intro e
      have := hsl.out; rw [e] at this; simp at this; omega
    have hn : ¬ s.toList = [] := by rw [Go.ByteArray.toList_eq]; intro e; rw [e] at hne; cases hne
    have hn2 : s.toList.isEmpty = false := by rw [Go.ByteArray.toList_eq]; exact hne
    have hb0 := hid (byte_get hpos)
    clear hne
    by_cases hz : s[0] = 48 ∧ 1 < s.size
    · have q1 : ((s[0].toNat : Int) == 48) = true := by rw [hz.1]; rfl
      have q2 : decide ((1 : Int) < (s.size : Int)) = true := by simp; omega
      have hbad := hid (show ¬ isForm s.data.toList from fun h => by
        rcases h.2.1 with h1 | h1
        · have := congrArg List.length h1
          rw [hsl.out] at this; simp at this; omega
        · rw [List.head?_eq_getElem?, hb0.out, hz.1] at h1
          exact h1 rfl)
      clear hz
      go_enter Tryz.func13, Tryz.ntmps13
      go_wp2_with fail
      go_ret
      exact ⟨ret_int (by rw [errN_bad hbad.out]), rfl⟩
    · have hform : allDig s.data.toList → isForm s.data.toList := fun hd => by
        refine ⟨fun e => by have := hsl.out; rw [e] at this; simp at this; omega, ?_, hd⟩
        by_cases h48 : s[0] = 48
        · left
          have h1 : s.data.toList.length = 1 := by
            have : ¬ 1 < s.size := fun h => hz ⟨h48, h⟩
            rw [hsl.out]; omega
          match hm : s.data.toList, h1 with
          | [c], _ =>
            have := hb0.out
            rw [hm] at this
            simp at this
            rw [this, h48]
        · right
          rw [List.head?_eq_getElem?, hb0.out]
          simpa using h48
      have HF := hid hform
      have hI : (((s[0].toNat : Int) == 48) = false ∧ decide ((1 : Int) < (s.size : Int)) = decide ((1 : Int) < (s.size : Int))) ∨ (((s[0].toNat : Int) == 48) = true ∧ decide ((1 : Int) < (s.size : Int)) = false) := by
        by_cases h48 : s[0] = 48
        · right
          have : ¬ 1 < s.size := fun h => hz ⟨h48, h⟩
          refine ⟨by rw [h48]; rfl, by simp; omega⟩
        · left
          refine ⟨?_, rfl⟩
          rw [beq_eq_false_iff_ne]
          intro e
          refine h48 ?_
          have : s[0].toNat = (48 : UInt8).toNat := by simp; omega
          exact UInt8.toNat_inj.1 this
      clear hform hz
      rcases hI with ⟨q1, -⟩ | ⟨q1, q2⟩
      all_goals
        go_enter Tryz.func13, Tryz.ntmps13
        go_wp2_with fail
        clear q1
        go_loop [3] (fun ii => ∃ i : Nat, ii = .int .i64 i ∧ i ≤ s.size ∧ Hid (∀ (j : Nat) (b : UInt8), j < i → s.data.toList[j]? = some b → isDig b = true)) (fun ii => s.size - (intOf ii).toNat)
        case atStart => exact ⟨0, rfl, Nat.zero_le _, fun j b hj => absurd hj (by omega)⟩
        case round =>
          obtain ⟨i, rfl, hi, hI⟩ := hrel
          by_cases hlt : i < s.size
          · have hb := hid (byte_get hlt)
            have hbad : ¬ isDig s[i] = true → ¬ isForm s.data.toList := fun h hf => h (hf.2.2 _ (List.mem_of_getElem? hb.out))
            by_cases c1 : s[i].toNat < 48
            · have q1 : decide ((s[i].toNat : Int) < 48) = true := by simp; omega
              have hB := hid (hbad (fun e => by have := isDig_iff.1 e; omega))
              clear hbad c1
              go_wp2_with fail
              go_ret
              exact ⟨ret_int (by rw [errN_bad hB.out]), rfl⟩
            · by_cases c2 : 57 < s[i].toNat
              · have q1 : decide ((s[i].toNat : Int) < 48) = false := by simp; omega
                have q2 : decide ((57 : Int) < (s[i].toNat : Int)) = true := by simp; omega
                have hB := hid (hbad (fun e => by have := isDig_iff.1 e; omega))
                clear hbad c1 c2
                go_wp2_with fail
                go_ret
                exact ⟨ret_int (by rw [errN_bad hB.out]), rfl⟩
              · have q1 : decide ((s[i].toNat : Int) < 48) = false := by simp; omega
                have q2 : decide ((57 : Int) < (s[i].toNat : Int)) = false := by simp; omega
                have hD := hid (isDig_iff.2 (show 48 ≤ s[i].toNat ∧ s[i].toNat ≤ 57 by omega))
                clear hbad c1 c2
                go_wp2_with fail
                go_round
                case rel => exact ⟨i + 1, by go_num, by omega, fun j b hj hjb => by
                  by_cases e : j = i
                  · subst e; have := hb.out; rw [hjb] at this; cases this; exact hD.out
                  · exact hI.out j b (by omega) hjb⟩
                case measure => simp [intOf] <;> omega
          · obtain rfl : i = s.size := by omega
            have hF := hid (HF.out fun b hb => by
              obtain ⟨j, hj⟩ := List.getElem?_of_mem hb
              exact hI.out j b (by have := (List.getElem?_eq_some_iff.1 hj).1; rw [hsl.out] at this; exact this) hj)
            by_cases hlong : 4000 < s.size
            · have q3 : decide ((4000 : Int) < (s.size : Int)) = true := by simp; omega
              have HL := hid hlong; clear hlong
              go_wp2_with fail
              go_ret
              exact ⟨ret_int (by rw [errN_long hF.out (by rw [hsl.out]; exact HL.out)]), rfl⟩
            · have q3 : decide ((4000 : Int) < (s.size : Int)) = false := by simp; omega
              have HL := hid hlong; clear hlong
              go_wp2_with fail
              go_ret
              exact ⟨ret_int (by rw [errN_ok hF.out (by rw [hsl.out]; exact HL.out)]), rfl⟩
end Go.Proofs.YtjgcjjbnnlnilaaGreatDoor

/- Walks: the reference's limbs: Order, Plus. -/
namespace Go.Proofs.YtjgcjjbnnlnilaaGreatDoor
open Go.RowKit
set_option linter.unusedVariables false


set_option maxHeartbeats 2000000 in
theorem r1_Order (w : World) (v u : Value) (a b : Nat) (ha : IsN .i64 w v a) (hb : IsN .i64 w u b) :
    Calls Tryz.prog 83 #[v, u] w fun e w' => e = .returned (.int .i64 (ordN a b)) ∧ Below w.heap.size w w' := by
  obtain ⟨a1, c1, rfl, h1, h2, h3⟩ := ha.openI
  obtain ⟨a2, c2, rfl, k1, k2, k3⟩ := hb.openI
  have H3 := hid h3; have K3 := hid k3; clear h3 k3 ha hb
  by_cases hne : (limbs a).length = (limbs b).length
  · obtain ⟨n, ea⟩ : ∃ n, (limbs a).length = n := ⟨_, rfl⟩
    have eb : (limbs b).length = n := hne.symm.trans ea
    rw [ea] at h1 ⊢
    rw [eb] at k1 ⊢
    have HA := hid ea; have HB := hid eb
    clear hne ea eb
    go_enter Tryz.func83, Tryz.ntmps83
    go_wp2_with fail
    go_loopw [5] (fun i wr => ∃ (k : Nat) (t : Int), k ≤ n ∧ i = .int .i64 t ∧ t = (k : Int) - 1 ∧ Hid ((limbs a).drop k = (limbs b).drop k) ∧ Hid (Below w.heap.size w wr)) (fun i _ => (intOf i + 1).toNat)
    case atStart => exact ⟨n, _, Nat.le_refl _, rfl, rfl, by rw [Hid, List.drop_of_length_le (by rw [HA.out]; exact Nat.le_refl _), List.drop_of_length_le (by rw [HB.out]; exact Nat.le_refl _)], Below.refl _ _⟩
    case round =>
      obtain ⟨k, t, hk, rfl, ht, hd, hB⟩ := hrel
      cases k with
      | zero =>
        obtain rfl : t = -1 := by omega
        clear ht
        go_wp2_with fail
        go_ret
        have : a = b := limbs_inj hd.out
        subst this
        exact ⟨ret_int ordN_eq.symm, hB.out⟩
      | succ k =>
        obtain rfl : t = (k : Int) := by omega
        clear ht
        obtain ⟨x, hx⟩ : ∃ x, (limbs a)[k]? = some x := ⟨_, List.getElem?_eq_getElem (by rw [HA.out]; omega)⟩
        obtain ⟨y, hy⟩ : ∃ y, (limbs b)[k]? = some y := ⟨_, List.getElem?_eq_getElem (by rw [HB.out]; omega)⟩
        obtain ⟨g, o, rfl, hg, hc⟩ := H3.out k x hx
        obtain ⟨g', o', rfl, hg', hc'⟩ := K3.out k y hy
        have d1 := (hB.out.cell (p := ⟨g, o + k, none⟩) hg).trans hc
        have d2 := (hB.out.cell (p := ⟨g', o' + k, none⟩) hg').trans hc'
        have HX := hid hx; have HY := hid hy; clear hx hy hc hc'
        have b1 : (0 : Int) ≤ (k : Int) := by omega
        have b2 : (k : Int) < (n : Int) := by omega
        rcases Nat.lt_trichotomy x y with hlt | heq | hgt
        · have q1 : decide (x < y) = true := by simpa using hlt
          go_wp2_with fail
          go_quiet (fail)
          go_wp2_with fail
          go_ret
          exact ⟨ret_int (ordN_lt (ord_lt_at (HA.out.trans HB.out.symm) HX.out HY.out hd.out hlt)).symm, below_drewN hB.out _⟩
        · have q1 : decide (x < y) = false := by simp; omega
          have q2 : decide (y < x) = false := by simp; omega
          go_wp2_with fail
          go_quiet (fail)
          go_wp2_with fail
          go_quiet (fail)
          go_wp2_with fail
          go_roundw
          case rel => exact ⟨k, _, by omega, rfl, rfl, drop_eq_next HX.out (by rw [HY.out, heq]) hd.out, below_drewN hB.out _⟩
          case measure => simp [intOf] <;> omega
        · have q1 : decide (x < y) = false := by simp; omega
          have q2 : decide (y < x) = true := by simpa using hgt
          go_wp2_with fail
          go_quiet (fail)
          go_wp2_with fail
          go_quiet (fail)
          go_wp2_with fail
          go_ret
          exact ⟨ret_int (ordN_gt (ord_lt_at (HB.out.trans HA.out.symm) HY.out HX.out hd.out.symm hgt)).symm, below_drewN (below_drewN hB.out _) _⟩
  · rcases Nat.lt_or_gt_of_ne hne with hlt | hgt
    · have HL := hid (lt_of_length hlt)
      have q0 : (((limbs a).length : Int) != ((limbs b).length : Int)) = true := by simp; omega
      have q1 : decide ((limbs a).length < (limbs b).length) = true := by simpa using hlt
      clear hne
      go_enter Tryz.func83, Tryz.ntmps83
      go_wp2_with fail
      go_ret
      exact ⟨ret_int (ordN_lt HL.out).symm, Below.refl _ _⟩
    · have HL := hid (lt_of_length hgt)
      have q0 : (((limbs a).length : Int) != ((limbs b).length : Int)) = true := by simp; omega
      have q1 : decide ((limbs a).length < (limbs b).length) = false := by simp; omega
      clear hne
      go_enter Tryz.func83, Tryz.ntmps83
      go_wp2_with fail
      go_ret
      exact ⟨ret_int (ordN_gt HL.out).symm, Below.refl _ _⟩
end Go.Proofs.YtjgcjjbnnlnilaaGreatDoor
