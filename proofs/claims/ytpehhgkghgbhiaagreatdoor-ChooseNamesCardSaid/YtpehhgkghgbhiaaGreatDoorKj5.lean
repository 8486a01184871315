/- Texts that the proof rests on, merged: Pw2, Np, Bg, Pk5, Held2, Pk6, Pk7, Pk8, Pk9, Pk10, PkI, Q2, Fr1, Fr3, Rt1, Mk, Pl0, Pl1, Pl2. -/
import Derived.Test.YtpehhgkghgbhiaaGreatDoorKj4
import Derived.WalkSmall
import Derived.RangeFuncBox
import Derived.Scope
namespace Go.Proofs.YtpehhgkghgbhiaaGreatDoor
open Go.RowKit
open Go.Lib (decDigits nDigits)
set_option linter.unusedVariables false
set_option linter.unusedSimpArgs false
/-- The state of Pow's loop. -/
structure PowI (A sq out n : Nat) (fits : Bool) : Prop where
  eq : out * sq ^ n = A
  two : 2 ≤ sq
  n1 : 1 ≤ n
  small : nDigits out ≤ 4000
  fit : fits = false → 4000 < nDigits sq
  len : fits = true → (limbs sq).length ≤ 100000
  lim : (limbs sq).length ≤ 200000
  pos : 1 ≤ out
theorem PowI.start {a n : Nat} (ha : 2 ≤ a) (hn : 1 ≤ n) (hl : (limbs a).length ≤ 100000) : PowI (a ^ n) a 1 n true :=
  ⟨Nat.one_mul _, ha, hn, by rw [nDigits_one]; omega, fun h => by (cases h), fun _ => hl, by omega, Nat.le_refl _⟩
theorem PowI.sq_le {A sq out n : Nat} {fits : Bool} (h : PowI A sq out n fits) : out * sq ≤ A := by
  rw [← h.eq]
  refine Nat.mul_le_mul_left _ ?_
  have := Nat.pow_le_pow_right (n := sq) (by have := h.two; omega) h.n1
  rwa [Nat.pow_one] at this
theorem PowI.big {A sq out n : Nat} {fits : Bool} (h : PowI A sq out n fits) (hf : fits = false) : 4000 < nDigits A := by
  refine Nat.lt_of_lt_of_le (h.fit hf) (nDigits_mono ?_)
  exact Nat.le_trans (Nat.le_mul_of_pos_left _ h.pos) h.sq_le
theorem PowI.bigO {A sq out n : Nat} {fits : Bool} (h : PowI A sq out n fits) (hb : 4000 < nDigits (out * sq)) : 4000 < nDigits A :=
  Nat.lt_of_lt_of_le hb (nDigits_mono h.sq_le)
theorem PowI.done {A sq out n : Nat} {fits : Bool} (h : PowI A sq out n fits) (hn : n = 1) : out * sq = A := by
  rw [← h.eq, hn, Nat.pow_one]
theorem sq_len {sq : Nat} (h : (limbs sq).length ≤ 100000) : (limbs (sq * sq)).length ≤ 200000 := by
  have := limbs_mul h h
  omega
theorem PowI.odd {A sq out n : Nat} {fits : Bool} (h : PowI A sq out n fits) (hf : fits = true) (ho : n % 2 = 1) (hs : nDigits (out * sq) ≤ 4000) (h2 : 1 ≤ n / 2) : PowI A (sq * sq) (out * sq) (n / 2) (decide (nDigits (sq * sq) ≤ 4000)) := by
  have h4 := Nat.mul_le_mul h.two h.two
  refine ⟨?_, by omega, h2, hs, fun e => ?_, fun e => ?_, sq_len (h.len hf), Nat.mul_pos h.pos (by have := h.two; omega)⟩
  · rw [← h.eq, Nat.mul_assoc, ← Nat.pow_two, ← Nat.pow_mul]
    have : sq * sq ^ (2 * (n / 2)) = sq ^ n := by
      rw [← Nat.pow_succ']
      congr 1
      omega
    rw [this]
  · have := of_decide_eq_false e; omega
  · have := limbs_of_digits (of_decide_eq_true e); omega
theorem PowI.even {A sq out n : Nat} {fits : Bool} (h : PowI A sq out n fits) (hf : fits = true) (ho : n % 2 = 0) : PowI A (sq * sq) out (n / 2) (decide (nDigits (sq * sq) ≤ 4000)) := by
  have h4 := Nat.mul_le_mul h.two h.two
  have h1 := h.n1
  refine ⟨?_, by omega, by omega, h.small, fun e => ?_, fun e => ?_, sq_len (h.len hf), h.pos⟩
  · rw [← h.eq, ← Nat.pow_two, ← Nat.pow_mul]
    congr 2
    omega
  · have := of_decide_eq_false e; omega
  · have := limbs_of_digits (of_decide_eq_true e); omega
/-- What Pow returns. -/
def RetPowU (n : Nat) (e : Ending) (w' : World) : Prop :=
  (nDigits n ≤ 4000 ∧ ∃ v, e = .returned (.tuple #[v, .bool true]) ∧ IsN .u64 w' v n) ∨ (4000 < nDigits n ∧ e = .returned (.tuple #[.slice none 0 0, .bool false]))
theorem isN_oneU (w : World) : IsN .u64 (w.alloc (.cells #[.int .u64 1] 124)) (.slice (some ⟨w.heap.size, 0, none⟩) 1 1) 1 := by
  unfold IsN
  rw [limbs_one]
  exact Row.of_blk (b := w.heap.size) (n := 1) (c := 1) (cs := #[.int .u64 1]) (Blk.new w _ _) rfl (by unfold maxLen; omega) (fun i x hx => by simpa [ints] using hx) (Nat.le_refl _) (by unfold maxLen; omega)
theorem odd_test {n : Nat} (h : n < 18446744073709551616) : (bits BinOp.and IntKind.u64 (n : Int) 1 == 1) = decide (n % 2 = 1) := by
  rw [and_one_u64 _ (by omega) (by omega), Bool.eq_iff_iff, beq_iff_eq, decide_eq_true_eq]
  omega
set_option maxRecDepth 100000 in
set_option maxHeartbeats 1000000 in
theorem l_Pow_zero (w : World) (v : Value) (a : Nat) (ha : IsN .u64 w v a) : Calls Tryz.prog 99 #[v, .int .u64 0, .int .i64 4000] w fun e w' => RetPowU (a ^ 0) e w' ∧ Below w.heap.size w w' := by
  have H1 := hid (isN_oneU (w.alloc (.cells #[.int .i64 4000] 3)))
  go_enter Tryz.func99, Tryz.ntmps99
  go_wp2_with fail
  go_ret2
  refine ⟨.inl ⟨by rw [Nat.pow_zero, nDigits_one]; omega, _, rfl, by rw [Nat.pow_zero]; simpa using H1.out⟩, ((Below.refl _ _).alloc (Nat.le_refl _) _).alloc (by simp) _⟩
set_option maxRecDepth 100000 in
set_option maxHeartbeats 1000000 in
theorem l_Pow_small (w : World) (v : Value) (a n : Nat) (ha : IsN .u64 w v a) (hs : a ≤ 1) (hn : 0 < n) (hn2 : n < 18446744073709551616) : Calls Tryz.prog 99 #[v, .int .u64 n, .int .i64 4000] w fun e w' => RetPowU (a ^ n) e w' ∧ Below w.heap.size w w' := by
  have hpow := hid (show a ^ n = a ∧ nDigits a ≤ 4000 from by
    rcases (show a = 0 ∨ a = 1 by omega) with rfl | rfl
    · exact ⟨Nat.zero_pow hn, by rw [nDigits_zero]; omega⟩
    · exact ⟨Nat.one_pow _, by rw [nDigits_one]; omega⟩)
  have b0 := hid ((Below.refl w.heap.size w).alloc (Nat.le_refl _) (.cells #[.int .i64 4000] 3))
  have A0 := hid (ha.call b0.out)
  have q0 : ((n : Int) == 0) = false := by rw [beq_eq_false_iff_ne]; omega
  obtain ⟨k1, d1, rfl, _⟩ := ha.openI
  obtain ⟨len, hlen⟩ : ∃ k, (limbs a).length = k := ⟨_, rfl⟩
  rw [hlen] at A0 ⊢
  clear ha hlen
  rcases (show a = 0 ∨ a = 1 by omega) with rfl | rfl
  · have hz : isZ 0 = true := rfl
    clear hs hn hn2
    go_enter Tryz.func99, Tryz.ntmps99
    go_wp2_with fail
    refine (l_Zero _ _ _ A0.out).mono ?_; rintro e w1 ⟨rfl, rfl⟩
    rw [hz]
    go_wp2_with fail
    go_ret2
    exact ⟨.inl ⟨by rw [hpow.out.1]; exact hpow.out.2, _, rfl, by rw [hpow.out.1]; exact A0.out⟩, b0.out⟩
  · have hz : isZ 1 = false := rfl
    have ho : isO 1 = true := rfl
    clear hs hn hn2
    go_enter Tryz.func99, Tryz.ntmps99
    go_wp2_with fail
    refine (l_Zero _ _ _ A0.out).mono ?_; rintro e w1 ⟨rfl, rfl⟩
    rw [hz]
    go_wp2_with fail
    refine (l_One _ _ _ A0.out).mono ?_; rintro e w1 ⟨rfl, rfl⟩
    rw [ho]
    go_wp2_with fail
    go_ret2
    exact ⟨.inl ⟨by rw [hpow.out.1]; exact hpow.out.2, _, rfl, by rw [hpow.out.1]; exact A0.out⟩, b0.out⟩
set_option maxRecDepth 100000 in
set_option maxHeartbeats 4000000 in
theorem l_Pow_big (w : World) (v : Value) (a N : Nat) (ha : IsN .u64 w v a) (hs : 2 ≤ a) (hl : (limbs a).length ≤ 100000) (hn : 0 < N) (hn2 : N < 18446744073709551616) (hL : Lay w) : Calls Tryz.prog 99 #[v, .int .u64 N, .int .i64 4000] w fun e w' => RetPowU (a ^ N) e w' ∧ Below w.heap.size w w' := by
  have b0 := hid ((Below.refl w.heap.size w).alloc (Nat.le_refl _) (.cells #[.int .i64 4000] 3))
  have A0 := hid (ha.call b0.out); have HA := hid ha
  have q0 : ((N : Int) == 0) = false := by rw [beq_eq_false_iff_ne]; omega
  obtain ⟨k1, d1, rfl, _⟩ := ha.openI
  obtain ⟨len, hlen⟩ : ∃ k, (limbs a).length = k := ⟨_, rfl⟩
  have PI := hid (PowI.start (n := N) hs hn hl)
  rw [hlen] at A0 HA ⊢
  have hz : isZ a = false := decide_eq_false (by omega)
  have ho : isO a = false := decide_eq_false (by omega)
  have HN2 := hid hn2; have HL := hid hL; have HLL := hid hL.lt
  obtain ⟨R, hR⟩ : ∃ R, a ^ N = R := ⟨_, rfl⟩
  rw [hR] at PI ⊢
  clear ha hlen hs hl hn hn2 hL hR
  go_enter Tryz.func99, Tryz.ntmps99
  go_wp2_with fail
  refine (l_Zero _ _ _ A0.out).mono ?_; rintro e w1 ⟨rfl, rfl⟩
  rw [hz]
  clear hz
  go_wp2_with fail
  refine (l_One _ _ _ A0.out).mono ?_; rintro e w1 ⟨rfl, rfl⟩
  rw [ho]
  clear ho
  go_wp2_with fail
  obtain ⟨W0, hW0⟩ : ∃ W0, ((((w.alloc (.cells #[.int .i64 4000] 3)).alloc (.cells #[.int .u64 1] 124)).alloc (.cells #[.slice k1 len d1] 120)).alloc (.cells #[.bool true] 4)) = W0 := ⟨_, rfl⟩
  have b4 : Below w.heap.size w W0 := by rw [← hW0]; exact ((((Below.refl _ _).alloc (Nat.le_refl _) _).alloc (by simp) _).alloc (by simp <;> omega) _).alloc (by simp <;> omega) _
  have x0 : Blk W0 w.heap.size #[.int .i64 4000] 3 := by rw [← hW0]; exact (((Blk.new w _ _).alloc _).alloc _).alloc _
  have x1 : Blk W0 (w.heap.size + 1) #[.int .u64 1] 124 := by rw [← hW0]; exact ((Blk.made _ _ _ (by simp)).alloc _).alloc _
  have x2 : Blk W0 (w.heap.size + 1 + 1) #[.slice k1 len d1] 120 := by rw [← hW0]; exact (Blk.made _ _ _ (by simp)).alloc _
  have x3 : Blk W0 (w.heap.size + 1 + 1 + 1) #[.bool true] 4 := by rw [← hW0]; exact Blk.made _ _ _ (by simp)
  have o0 : IsN .u64 W0 (.slice (some ⟨w.heap.size + 1, 0, none⟩) 1 1) 1 := by
    unfold IsN
    rw [limbs_one]
    exact Row.of_blk (n := 1) (c := 1) x1 rfl (by unfold maxLen; omega) (fun i x hx => by simpa [ints] using hx) (Nat.le_refl _) (by unfold maxLen; omega)
  have P0 : PowS W0 (w.heap.size + 1 + 1) (w.heap.size + 1 + 1 + 1) w.heap.size a true := ⟨⟨_, _, _, x2, HA.out.call b4⟩, x3, x0, by omega, by omega, by omega⟩
  rw [hW0]
  have OO := hid o0; have PP := hid P0; have BB := hid b4
  obtain ⟨bs, hbs⟩ : ∃ b, w.heap.size + 1 + 1 = b := ⟨_, rfl⟩
  rw [hbs] at PP ⊢
  obtain ⟨bf, hbf⟩ : ∃ b, bs + 1 = b := ⟨_, rfl⟩
  rw [hbf] at PP ⊢
  have HBS := hid (show w.heap.size ≤ bs by omega); have HBF := hid (show w.heap.size ≤ bf by omega)
  have e159 : ∀ args w, (callFunc 140 args).run Tryz.prog w = .ok (.enter 140 args) w := enters_of Tryz.func140 (by kernel_rfl) rfl
  clear b4 x0 x1 x2 x3 o0 P0 hW0 hbs hbf A0 b0 q0
  go_loopw [1, 8] (fun nn oo wr => ∃ (n out sq : Nat) (fits : Bool) (a1 : Option Addr) (l1 c1 : Nat), nn = .int .u64 (n : Nat) ∧ oo = .slice a1 l1 c1 ∧ Hid (PowI R sq out n fits) ∧ Hid (IsN .u64 wr (.slice a1 l1 c1) out) ∧ Hid (PowS wr bs bf w.heap.size sq fits) ∧ Hid (Below w.heap.size w wr) ∧ n < 18446744073709551616) (fun nn oo wr => (intOf nn).toNat)
  case atStart => exact ⟨N, 1, a, true, _, _, _, rfl, rfl, PI.out, OO.out, PP.out, BB.out, HN2.out⟩
  case round =>
    obtain ⟨n, out, sq, fits, a1, l1, c1, rfl, rfl, hI, hO, hS, hB, hn⟩ := hrel
    obtain ⟨a2, l2, c2, h1, h2⟩ := hS.out.sq
    have HL1 := hid (HL.out.call hB.out)
    have HO := hid h1; have HV := hid h2; have HF := hid hS.out.fits; have HT := hid hS.out.lim
    have k0 : wr.cell? ⟨bs, 0, none⟩ = some (.slice a2 l2 c2) := h1.cell 0
    have k1 : wr.cell? ⟨bf, 0, none⟩ = some (.bool fits) := hS.out.fits.cell 0
    have k2 : wr.cell? ⟨w.heap.size, 0, none⟩ = some (.int .i64 4000) := hS.out.lim.cell 0
    have HN := hid hn; have HN1 := hid hI.out.n1
    have HLO := hid (limbs_of_digits hI.out.small); have HLS := hid hI.out.lim
    clear h1 h2
    by_cases ho : n % 2 = 1
    · have q1 : (bits BinOp.and IntKind.u64 (n : Int) 1 == 1) = true := by rw [odd_test hn]; exact decide_eq_true ho
      have HO1 := hid ho
      clear ho hn
      go_wp2_with fail
      refine (l_Mul _ _ _ out sq hO.out HV.out (by have := HLO.out; omega) (by have := HLS.out; omega)).mono ?_; rintro e w1 ⟨⟨v1, rfl, hv1⟩, hb1⟩
      have HLM := hid (limbs_mul HLO.out HLS.out)
      obtain ⟨a3, c3, rfl, _⟩ := hv1.openI
      obtain ⟨l3, hl3⟩ : ∃ l, (limbs (out * sq)).length = l := ⟨_, rfl⟩
      rw [hl3] at hv1 ⊢
      have V1 := hid hv1; have F1 := hid (HF.out.call hb1); have T1 := hid (HT.out.call hb1); have B1 := hid (bnext hB.out hb1)
      have S1 : Hid (PowS w1 bs bf w.heap.size sq fits) := ⟨⟨_, _, _, HO.out.call hb1, HV.out.call hb1⟩, F1.out, T1.out, hS.out.n1, hS.out.n2, hS.out.n3⟩
      have m1 : w1.cell? ⟨bf, 0, none⟩ = some (.bool fits) := F1.out.cell 0
      have m2 : w1.cell? ⟨w.heap.size, 0, none⟩ = some (.int .i64 4000) := T1.out.cell 0
      have L1 := hid (HL1.out.call hb1); have B1x := hid hb1
      clear hb1 hv1 k0 k1 k2 hl3
      cases fits
      · go_wp2_with fail
        go_quiet (fail)
        go_wp2_with fail
        go_ret2
        exact ⟨.inr ⟨hI.out.big rfl, rfl⟩, below_drewN B1.out _⟩
      · go_wp2_with fail
        go_region_held3 (fun w' => w'.cell? ⟨bf, 0, none⟩ = some (.bool true) ∧ w'.cell? ⟨w.heap.size, 0, none⟩ = some (.int .i64 4000))
          (first | exact ⟨m1, m2⟩ | exact ⟨F2.out.cell 0, T2.out.cell 0⟩)
          (first
            | (go_at_call 141; refine (l_Digits _ _ (out * sq) (V1.out.call (Below.refl _ _).drew) (L1.out.call (Below.refl _ _).drew) (by have := HLM.out; omega)).mono ?_; rintro e w2 ⟨rfl, hb2⟩; have B2 := hid (show Below w1.heap.size w1 w2 from (Below.refl _ _).drew.trans hb2); have F2 := hid (F1.out.call B2.out); have T2 := hid (T1.out.call B2.out)))
        have S2 : Hid (PowS w2 bs bf w.heap.size sq true) := ⟨⟨_, _, _, (HO.out.call B1x.out).call B2.out, (HV.out.call B1x.out).call B2.out⟩, F2.out, T2.out, hS.out.n1, hS.out.n2, hS.out.n3⟩
        have V2 := hid (V1.out.call B2.out); have L2 := hid (L1.out.call B2.out); have BB2 := hid (bnext B1.out B2.out)
        clear m1 m2
        by_cases hd : 4000 < nDigits (out * sq)
        · have q2 : decide ((4000 : Int) < (nDigits (out * sq) : Nat)) = true := by simp; omega
          have HD := hid hd
          rw [q2]
          clear hd q2
          go_wp2_with fail
          go_ret2
          exact ⟨.inr ⟨hI.out.bigO HD.out, rfl⟩, BB2.out⟩
        · have q2 : decide ((4000 : Int) < (nDigits (out * sq) : Nat)) = false := by simp; omega
          have HD := hid (show nDigits (out * sq) ≤ 4000 by omega)
          rw [q2]
          clear hd q2
          have m1 : w2.cell? ⟨bf, 0, none⟩ = some (.bool true) := F2.out.cell 0
          by_cases h1 : n = 1
          · have HD1 := hid (hI.out.done h1)
            subst h1
            go_wp2_with fail
            go_ret2
            exact ⟨.inl ⟨by rw [← HD1.out]; exact HD.out, _, rfl, by rw [← HD1.out]; exact V2.out⟩, BB2.out⟩
          · have h2 : 1 ≤ n / 2 := by have := HO1.out; omega
            have HN2' := hid h2
            have q3 : ((n : Int) / 2 == 0) = false := by rw [beq_eq_false_iff_ne]; omega
            have HI2 := hid (hI.out.odd rfl HO1.out HD.out h2)
            clear h1 h2
            go_wp2_with fail
            refine (l_Pow1 _ bs bf w.heap.size sq w.heap.size true S2.out HBS.out HBF.out BB2.out.size (hI.out.len rfl) L2.out HLL.out).mono ?_; rintro e w5 ⟨⟨v5, rfl⟩, hp5, hk5, hb5⟩
            have P5 := hid hp5; have O5 := hid (hk5 _ _ _ V2.out); have B5 := hid (BB2.out.trans hb5)
            clear hp5 hk5 hb5
            go_wp2_with fail
            go_roundw
            case rel => exact ⟨n / 2, out * sq, sq * sq, _, _, _, _, by rw [show ((n : Int) / 2) = ((n / 2 : Nat) : Int) by omega], rfl, HI2, O5, P5, B5, by have := HN.out; omega⟩
            case measure => simp [intOf] <;> (have := HN1.out; omega)
    · have q1 : (bits BinOp.and IntKind.u64 (n : Int) 1 == 1) = false := by rw [odd_test hn]; exact decide_eq_false ho
      have h0 : n % 2 = 0 := by omega
      have h2 : 1 ≤ n / 2 := by have := HN1.out; omega
      have q3 : ((n : Int) / 2 == 0) = false := by rw [beq_eq_false_iff_ne]; omega
      have H0 := hid h0
      clear ho hn h0 h2
      cases fits
      · go_wp2_with fail
        go_ret2
        exact ⟨.inr ⟨hI.out.big rfl, rfl⟩, hB.out⟩
      · have HI2 := hid (hI.out.even rfl H0.out)
        go_wp2_with fail
        refine (l_Pow1 _ bs bf w.heap.size sq w.heap.size true hS.out HBS.out HBF.out hB.out.size (hI.out.len rfl) HL1.out HLL.out).mono ?_; rintro e w5 ⟨⟨v5, rfl⟩, hp5, hk5, hb5⟩
        have P5 := hid hp5; have O5 := hid (hk5 _ _ _ hO.out); have B5 := hid (hB.out.trans hb5)
        clear hp5 hk5 hb5
        go_wp2_with fail
        go_roundw
        case rel => exact ⟨n / 2, out, sq * sq, _, _, _, _, by rw [show ((n : Int) / 2) = ((n / 2 : Nat) : Int) by omega], rfl, HI2, O5, P5, B5, by have := HN.out; omega⟩
        case measure => simp [intOf] <;> (have := HN1.out; omega)
theorem l_Pow (w : World) (v : Value) (a n : Nat) (ha : IsN .u64 w v a) (hl : (limbs a).length ≤ 100000) (hn2 : n < 18446744073709551616) (hL : Lay w) : Calls Tryz.prog 99 #[v, .int .u64 n, .int .i64 4000] w fun e w' => RetPowU (a ^ n) e w' ∧ Below w.heap.size w w' := by
  rcases Nat.eq_zero_or_pos n with rfl | hn
  · exact l_Pow_zero w v a ha
  · by_cases h : a ≤ 1
    · exact l_Pow_small w v a n ha h hn hn2
    · exact l_Pow_big w v a n ha (by omega) hl hn hn2 hL
end Go.Proofs.YtpehhgkghgbhiaaGreatDoor
namespace Go.Proofs.YtpehhgkghgbhiaaGreatDoor
open Go.RowKit
open Go.Lib (decDigits nDigits)
set_option linter.unusedVariables false
set_option linter.unusedSimpArgs false
set_option maxRecDepth 100000 in
set_option maxHeartbeats 1000000 in
theorem n_Pow_ok (w : World) (s : ByteArray) (n : Nat) (hs : errN s.data.toList = 0) (hn : n ≤ 9223372036854775807) (hd : nDigits (bN s ^ n) ≤ 4000) (hL : Lay w) :
    Calls Tryz.prog 57 #[.string s, .int .i64 n] w fun e w' => e = .returned (.tuple #[.string (numB (bN s ^ n)), .int .i64 0]) ∧ Below w.heap.size w w' := by
  obtain ⟨d1, d2, d3⟩ := errN_dig hs
  have HC := fun V => hid (n_Check V s (by omega))
  rw [hs] at HC
  have HP := fun V => hid (l_Parse V s d1 (by omega))
  have hdv : dv s.data.toList = bN s := rfl
  rw [hdv] at HP
  have HW := fun V v hv hL => hid (l_Pow V v (bN s) n hv (by omega) (by omega) hL)
  have HR := fun V v hv hL => hid (n_result V v (bN s ^ n) hv (by have := limbs_of_digits hd; omega) hL)
  have e1 : resB (bN s ^ n) = numB (bN s ^ n) := by rw [resB, if_neg (by omega)]
  have e2 : resE (bN s ^ n) = 0 := by rw [resE, if_neg (by omega)]
  rw [e1, e2] at HR
  obtain ⟨R, hR⟩ : ∃ R, bN s ^ n = R := ⟨_, rfl⟩
  rw [hR] at HW HR hd ⊢
  have HD := hid hd; have HL := hid hL
  have hn0 : (0 : Int) ≤ (n : Int) := by omega
  have hn1 : (n : Int) ≤ 9223372036854775807 := by omega
  have q0 : decide ((n : Int) < 0) = false := by simp
  clear hs hn d1 d2 d3 hdv e1 e2 hR hd hL
  go_enter Tryz.func57, Tryz.ntmps57
  go_wp2_with fail
  refine (HC _).out.mono ?_; rintro e w1 ⟨rfl, hb1⟩
  have b1 := hid hb1; clear hb1
  go_wp2_with fail
  refine (HP _).out.mono ?_; rintro e w2 ⟨⟨v2, rfl, hv2⟩, hb2⟩
  have b2 := hid (bnext b1.out hb2); have V2 := hid hv2; clear hb2 hv2
  go_wp2_with fail
  refine (HW _ _ V2.out (HL.out.call b2.out)).out.mono ?_
  rintro e w3 ⟨h3, hb3⟩
  rcases h3 with ⟨-, v3, rfl, hv3⟩ | ⟨h3, -⟩
  · have b3 := hid (bnext b2.out hb3); have V3 := hid hv3; clear hb3 hv3
    go_wp2_with fail
    refine (HR _ _ V3.out (HL.out.call b3.out)).out.mono ?_; rintro e w4 ⟨rfl, hb4⟩
    have b4 := hid (bnext b3.out hb4); clear hb4
    go_wp2_with fail
    go_ret2
    exact ⟨rfl, b4.out⟩
  · exact absurd h3 (by have := HD.out; omega)
end Go.Proofs.YtpehhgkghgbhiaaGreatDoor
namespace Go.Proofs.YtpehhgkghgbhiaaGreatDoor
open Go.RowKit
theorem below_grown {w w' : World} (h : Below w.heap.size w w') (row : Option Nat) : w.grownBy w' row := ⟨h.os, h.tape, h.output, h.size, fun k hk _ => h.block k hk⟩
end Go.Proofs.YtpehhgkghgbhiaaGreatDoor
namespace Go.Proofs.YtpehhgkghgbhiaaGreatDoor
open Go.RowKit Go.Shelf
open Go.Lib (decDigits nDigits)
set_option linter.unusedVariables false
set_option linter.unusedSimpArgs false
attribute [local go_sem] Oper.semAt_some
/-- What scan hands over: the sum of the weights before, the weight. -/
def scOk (ws : List Nat) (p : List (ByteArray × ByteArray)) (x : ByteArray × ByteArray) : Prop := p.length < ws.length ∧ x.1 = numB (pre ws p.length) ∧ ∃ c, ws[p.length]? = some c ∧ x.2 = numB c
/-- Weights whose sums can be computed with. -/
structure WsOk (ws : List Nat) : Prop where
  len : ws.length ≤ 64
  dig : ∀ x ∈ ws, nDigits x ≤ 3800
theorem WsOk.sum {ws : List Nat} (h : WsOk ws) : nDigits ws.sum ≤ 3802 := nd_sum h.dig (by have := h.len; omega)
theorem WsOk.pre {ws : List Nat} (h : WsOk ws) (i : Nat) : nDigits (pre ws i) ≤ 3802 := nd_pre i h.sum
set_option maxRecDepth 100000 in
set_option maxHeartbeats 2000000 in
theorem scan_feeds {Kp : World → World → Prop} (n : Nat) (hn : 1 ≤ n) (w : World) (bb : Nat) (v : Value) (ws : List Nat) (hws : WsOk ws) (hKr : ∀ W, Kp W W) (hKt : ∀ {A B C : World}, Kp A B → Kp B C → Kp A C)
    (hread : ∀ W1 W2, Below w.heap.size w W1 → Kp W1 W2 → W2.cell? ⟨bb, 0, none⟩ = some v ∧ Row W2 v (strs (ws.map numB)) ∧ Lay W2) (hKb : ∀ W1 W2, Below W1.heap.size W1 W2 → Kp W1 W2) :
    Feeds n Tryz.prog 155 #[.pointer (some ⟨bb, 0, none⟩)] (fun x : ByteArray × ByteArray => #[.string x.1, .string x.2]) Kp (scOk ws) (fun xs => xs.length = ws.length) (fun _ => True) w := by
  intro l J Jx W hW hJ hJx hY h0
  have HR := hid hread; have HY := hid hY; have HW := hid hW; have HJ := hid hJ; have HJx := hid hJx
  have HKr := hid hKr; have HKt : Hid (∀ A B C : World, Kp A B → Kp B C → Kp A C) := fun A B C h k => hKt h k
  have HKb := hid hKb
  have HWS := hid hws
  have e0 : (⟨#[48]⟩ : ByteArray) = numB 0 := numB_zero.symm
  have E0 := hid e0
  obtain ⟨c0, r0, -⟩ := hread W W hW (hKr W)
  obtain ⟨a, c, rfl, q1, q2, -⟩ := r0.openS
  obtain ⟨N, hN⟩ : ∃ N, (ws.map numB).length = N := ⟨_, rfl⟩
  have HN := hid (show ws.length = N from by rw [← hN]; simp)
  rw [hN] at HR c0 q1
  clear hread hY hW hJ hJx hKr hKt hKb hws r0 hN e0
  refine callsIn_of_wp Tryz.func155 rfl trivial ?_ rfl
  simp only [Tryz.ntmps155, List.size_toArray, List.length_cons, List.length_nil, Nat.reduceAdd, Nat.reduceSub, Array.replicate_succ, Array.replicate_zero, List.push_toArray, List.append_toArray, List.nil_append, List.cons_append]
  gi_wp2
  gi_loopw [3, 8] (fun s ii wr => ∃ p : List (ByteArray × ByteArray), s = .string (numB (pre ws p.length)) ∧ ii = .int .i64 (p.length : Nat) ∧ p.length ≤ N ∧ Hid (J p wr) ∧ Hid (Kp W wr)) (fun s ii wr => N - (intOf ii).toNat)
  case atStart => exact ⟨[], by rw [List.length_nil, pre_zero, ← E0.out], rfl, Nat.zero_le _, h0, HKr.out W⟩
  case round =>
    obtain ⟨p, rfl, rfl, hp, hJ, hK⟩ := hrel
    obtain ⟨i, hi⟩ : ∃ i, p.length = i := ⟨_, rfl⟩
    have HI := hid hi
    rw [hi] at hp ⊢
    clear hi
    by_cases hlt : i < N
    · obtain ⟨x, hx⟩ : ∃ x, ws[i]? = some x := ⟨_, List.getElem?_eq_getElem (by rw [HN.out]; exact hlt)⟩
      obtain ⟨-, hrow, hLay⟩ := HR.out W wr HW.out hK.out
      obtain ⟨a', c', e, -, -, hcell⟩ := hrow.openS
      simp only [Value.slice.injEq] at e
      obtain ⟨rfl, -, rfl⟩ := e
      obtain ⟨g, o, rfl, hg, hc⟩ := hcell i (numB x) (by simp [hx])
      have HX := hid hx; have HLay := hid hLay
      have b1 : (0 : Int) ≤ (i : Int) := by omega
      have b2 : (i : Int) < (N : Int) := by omega
      have wi : IntKind.i64.wrap ((i : Int) + 1) = (i : Int) + 1 := by rw [IntWalk.i64_in _ ⟨by omega, by omega⟩]
      have n1 := HWS.out.pre i
      have n2 := HWS.out.pre (i + 1)
      have n3 := HWS.out.dig x (List.mem_of_getElem? hx)
      rw [pre_succ hx] at n2
      have PL := fun V hV => hid (pk_plus V (pre ws i) x (by omega) (by omega) (by omega) hV)
      rw [← pre_succ hx] at PL
      obtain ⟨S0, hS0⟩ : ∃ s, numB (pre ws i) = s := ⟨_, rfl⟩
      obtain ⟨X0, hX0⟩ : ∃ s, numB x = s := ⟨_, rfl⟩
      have HS0 := hid hS0; have HX0 := hid hX0
      rw [hX0] at hc
      rw [hS0, hX0] at PL
      rw [hS0]
      clear hx hrow hLay hcell n1 n2 n3 hS0 hX0
      obtain ⟨fn, tmps, assign, body, hy, hRR⟩ := HY.out p (S0, X0) wr ⟨by rw [HI.out, HN.out]; exact hlt, by rw [HI.out, HS0.out], x, by rw [HI.out]; exact HX.out, HX0.out.symm⟩ hJ.out
      dsimp only at hy
      have HYR := hid hRR
      clear hRR
      gi_wp2_with fail
      refine HYR.out.mono ?_
      rintro e W3 (⟨rfl, hJ3, hk3⟩ | ⟨rfl, hJx3⟩)
      · have HJ3 := hid hJ3; have HK3 := hid (HKt.out _ _ _ hK.out hk3)
        have hLay3 := (HR.out W W3 HW.out HK3.out).2.2
        have HLay3 := hid hLay3
        clear hJ3 hk3 hLay3 hy
        gi_wp2_with (refine ⟨trivial, ?_⟩; gi_at_call 95; refine (callsIn_wide.2 (PL _ HLay3.out).out).mono ?_; rintro e W4 ⟨rfl, hb4⟩)
        have HJ4 : Hid (J (p ++ [(S0, X0)]) W4) := HJ.out _ W3 W4 none HJ3.out ⟨hb4.os, hb4.tape, hb4.output, hb4.size, fun k hk _ => hb4.block k hk⟩ (fun r e => by cases e)
        have HK4 := hid (HKt.out _ _ _ HK3.out (HKb.out _ _ hb4))
        clear hb4
        gi_wp2_with fail
        go_roundw
        case rel => exact ⟨p ++ [(S0, X0)], by rw [List.length_append, List.length_singleton, HI.out], by rw [List.length_append, List.length_singleton, HI.out]; rfl, by rw [List.length_append, List.length_singleton, HI.out]; omega, HJ4, HK4⟩
        case measure => simp [intOf] <;> omega
      · clear hy
        gi_wp2_with fail
        refine bodyPost_ret (results_none rfl _ _ _) rfl ?_
        exact ⟨⟨_, rfl⟩, .inr ⟨_, trivial, hJx3⟩⟩
    · obtain rfl : i = N := by omega
      gi_wp2_with fail
      refine bodyPost_end (results_none rfl _ _ _) rfl ?_
      exact ⟨⟨_, rfl⟩, .inl ⟨p, by rw [HI.out, HN.out], hJ.out⟩⟩
end Go.Proofs.YtpehhgkghgbhiaaGreatDoor
namespace Go.Proofs.YtpehhgkghgbhiaaGreatDoor
open Go.RowKit
variable {P : Program} {ops : Array Oper} {Q : Exit → Act → World → Prop} {md : Region.Mode}
/-- An operation that comes up. -/
theorem held_op {S : World → Prop} {i : Nat} {o : Oper} {fuel : Nat} {listed : Array Bool} {a : Act} {w : World} (ho : ops[i]? = some o) (hg : o.guard = none)
    (h : wpList P ops (ThenH P md ops (Only Q) S fuel (listed.setIfInBounds i true)) [o] a w) : wpOp P ops (Only Q) i (fun a' w' => S w' ∧ wpAnyH P md ops (Only Q) S fuel (listed.setIfInBounds i true) a' w') a w := by
  unfold wpOp
  rw [ho]
  have hw : Region.wanted o (yielded ops a.tmps) = true := by simp [Region.wanted, hg]
  simp only [hw, if_true]
  unfold wpList at h
  rw [if_pos hw] at h
  rcases h with h | ⟨_, _, _, h⟩
  · left
    unfold Oper.wp at *
    generalize (execOp a.eval o).run P w = r at *
    cases r with
    | ok m w' =>
      cases m <;> simp only [Oper.upon] at h ⊢
      case value u => exact h
      case skip => exact h
      case defer d => exact h
      case enter f args =>
        refine Calls.mono h fun e w'' he => ?_
        cases e with
        | returned u => exact he
        | panicked c => exact he.elim
        | outgrown => obtain ⟨_, _, hx⟩ := he; exact hx.elim
      case row row args => exact h
    | halt x w' =>
      cases x <;> simp only [Oper.upon] at h ⊢
      case panic u => exact h.elim
  · exact h.elim
/-- One of two comes up: both are to be walked. -/
theorem held_two {S : World → Prop} {i j : Nat} {oi oj : Oper} {fuel : Nat} {listed : Array Bool} {a : Act} {w : World} (hr : Region.ready md ops listed = [i, j]) (hi : ops[i]? = some oi) (hj : ops[j]? = some oj) (hgi : oi.guard = none) (hgj : oj.guard = none)
    (h1 : wpList P ops (ThenH P md ops (Only Q) S fuel (listed.setIfInBounds i true)) [oi] a w)
    (h2 : wpList P ops (ThenH P md ops (Only Q) S fuel (listed.setIfInBounds j true)) [oj] a w) : wpAnyH P md ops (Only Q) S (fuel + 1) listed a w := by
  refine wpAnyH_all hr (by simp) fun k hk => ?_
  rcases List.mem_cons.1 hk with rfl | hk
  · exact held_op hi hgi h1
  · obtain rfl : k = j := by simpa using hk
    exact held_op hj hgj h2
end Go.Proofs.YtpehhgkghgbhiaaGreatDoor
namespace Go.Proofs.YtpehhgkghgbhiaaGreatDoor
open Go.RowKit Go.Shelf
open Go.Lib (decDigits nDigits)
set_option linter.unusedVariables false
set_option linter.unusedSimpArgs false
attribute [local go_sem] Oper.semAt_some
set_option maxRecDepth 100000 in
set_option maxHeartbeats 1000000 in
theorem p_scan (w : World) (a : Option Addr) (n c : Nat) :
    Calls Tryz.prog 122 #[.slice a n c] w fun e w' => e = .returned (.func (.func 155) #[] #[.pointer (some ⟨w.heap.size, 0, none⟩)]) ∧ w' = w.alloc (.cells #[.slice a n c] 55) := by
  go_enter Tryz.func122, Tryz.ntmps122
  go_wp2_with fail
  go_ret
  exact ⟨rfl, rfl⟩
/-- What the rounds leave alone: below n0, and a block. -/
structure KpE (n0 b1 : Nat) (W W' : World) : Prop where
  size : W.heap.size ≤ W'.heap.size
  rest : n0 ≤ W.heap.size → b1 < W.heap.size → Below n0 W W' ∧ W'.heap[b1]? = W.heap[b1]?
theorem KpE.refl (n0 b1 : Nat) (W : World) : KpE n0 b1 W W := ⟨Nat.le_refl _, fun _ _ => ⟨Below.refl _ _, rfl⟩⟩
theorem KpE.trans {n0 b1 : Nat} {A B C : World} (h : KpE n0 b1 A B) (k : KpE n0 b1 B C) : KpE n0 b1 A C :=
  ⟨Nat.le_trans h.size k.size, fun h1 h2 => by
    obtain ⟨x, y⟩ := h.rest h1 h2
    obtain ⟨x', y'⟩ := k.rest (Nat.le_trans h1 h.size) (Nat.lt_of_lt_of_le h2 h.size)
    exact ⟨x.trans x', y'.trans y⟩⟩
theorem KpE.of_below {n0 b1 : Nat} {W W' : World} (h : Below W.heap.size W W') : KpE n0 b1 W W' := ⟨h.size, fun h1 h2 => ⟨h.mono h1, h.block _ h2⟩⟩
theorem KpE.put {n0 b1 : Nat} {w : World} (h1 : n0 ≤ w.heap.size) (h2 : b1 < w.heap.size) (W : World) (l : Nat) (o o' : Obj) (hl : w.heap.size ≤ l) (h : W.heap[l]? = some o) (hc : o.isCells = false) (hw : o.isWalk = false) : KpE n0 b1 W (W.putObj l o') := by
  have hs : W.heap.size ≤ (W.putObj l o').heap.size := by simp [World.putObj]
  refine ⟨hs, fun _ _ => ⟨?_, ?_⟩⟩
  · exact ⟨rfl, rfl, rfl, hs, fun k hk => World.putObj_heap_other (by omega)⟩
  · exact World.putObj_heap_other (by omega)
theorem info_num : (Tryz.prog.info? 23).map (fun i => (i.zero, i.size, i.bytes)) = some (some (.string ⟨#[]⟩), 1, 16) := by kernel_rfl
/-- The upper ends of the first n intervals. -/
def endL (ws : List Nat) (n : Nat) : List ByteArray := (List.range n).map fun i => numB (pre ws (i + 1))
@[simp] theorem endL_length (ws : List Nat) (n : Nat) : (endL ws n).length = n := by simp [endL]
theorem endL_succ (ws : List Nat) (n : Nat) : endL ws (n + 1) = endL ws n ++ [numB (pre ws (n + 1))] := by
  unfold endL
  rw [List.range_succ, List.map_append]; rfl
theorem endL_get {ws : List Nat} {n i : Nat} (h : i < n) : (endL ws n)[i]? = some (numB (pre ws (i + 1))) := by
  unfold endL
  rw [List.getElem?_map, List.getElem?_range h]; rfl
theorem strs_append (a b : List ByteArray) : strs (a ++ b) = strs a ++ strs b := by simp [strs]
/-- What holds behind some weights. -/
def EndI (B : Nat) (ws : List Nat) (p : List (ByteArray × ByteArray)) (W : World) : Prop := ∃ v, p.length ≤ ws.length ∧ Boxed W B 55 v ∧ W.ownsRow B 23 1 v p.length (strs (endL ws p.length))
theorem EndI.own {B : Nat} {ws : List Nat} {C : Nat} : OwnFrom C (EndI B ws) := by
  rintro s X Y row ⟨v, h1, hv, hr⟩ hg hrow
  refine ⟨v, h1, hv.kept hg (fun e' => ?_), hr.kept hg ?_⟩
  · obtain ⟨-, o, ho, hc⟩ := hrow _ e'.symm
    rw [show X.heap[B]? = _ from hv] at ho; cases ho; cases hc
  · rcases hr.2 with ⟨rfl, _⟩ | ⟨g, cap, cur, rfl, _, hgb, _⟩
    · exact .inl rfl
    · refine .inr fun e' => ?_
      obtain ⟨-, o, ho, hc⟩ := hrow g (by simpa [Value.ownBlock] using e'.symm)
      rw [hgb] at ho; cases ho; cases hc
set_option maxRecDepth 100000 in
set_option maxHeartbeats 4000000 in
theorem p_ends (w : World) (v : Value) (ws : List Nat) (hws : WsOk ws) (hv : Row w v (strs (ws.map numB))) (hL : Lay w) :
    Calls Tryz.prog 77 #[v] w fun e w' => (∃ u, e = .returned u ∧ Row w' u (strs (endL ws ws.length))) ∧ Below w.heap.size w w' := by
  have HL := hid hL; have HV := hid hv; have HWS := hid hws
  obtain ⟨a, c, rfl, q1, q2, -⟩ := hv.openS
  obtain ⟨N, hN⟩ : ∃ N, (ws.map numB).length = N := ⟨_, rfl⟩
  have HN := hid (show ws.length = N from by rw [← hN]; simp)
  rw [hN] at HV q1
  rw [hN]
  clear hL hv hws hN
  refine (callsIn_wide (n := 9)).1 ?_
  refine callsIn_of_wp_marks Tryz.func77 rfl trivial ?_ rfl
  simp only [Tryz.ntmps77, List.size_toArray, List.length_cons, List.length_nil, Nat.reduceAdd, Nat.reduceSub, Array.replicate_succ, Array.replicate_zero, List.push_toArray, List.append_toArray, List.nil_append, List.cons_append]
  gi_wp2_with (refine ⟨trivial, ?_⟩; gi_at_call 122; refine (callsIn_wide.2 (p_scan _ _ _ _)).mono ?_; rintro e w' ⟨rfl, rfl⟩)
  obtain ⟨i0, hi, hz0, hz1, hz2⟩ := info_parts info_num
  obtain ⟨W0, hW0⟩ : ∃ W0, (w.alloc (.cells #[.slice none 0 0] 55)).alloc (.cells #[.slice a N c] 55) = W0 := ⟨_, rfl⟩
  have y0 : Blk W0 w.heap.size #[.slice none 0 0] 55 := by rw [← hW0]; exact (Blk.new w _ _).alloc _
  have y1 : Blk W0 (w.heap.size + 1) #[.slice a N c] 55 := by rw [← hW0]; exact Blk.made _ _ _ (by simp)
  have b0 : Below w.heap.size w W0 := by rw [← hW0]; exact ((Below.refl _ _).alloc (Nat.le_refl _) _).alloc (by simp) _
  have z0 : W0.heap.size = w.heap.size + 1 + 1 := by rw [← hW0]; simp
  rw [hW0]
  have Y0 := hid y0; have Y1 := hid y1; have HB0 := hid b0; have Z0 := hid z0
  clear y0 y1 b0 z0 hW0
  have hread : ∀ W1 W2, Below W0.heap.size W0 W1 → KpE w.heap.size (w.heap.size + 1) W1 W2 → W2.cell? ⟨w.heap.size + 1, 0, none⟩ = some (.slice a N c) ∧ Row W2 (.slice a N c) (strs (ws.map numB)) ∧ Lay W2 := fun W1 W2 b1 b2 => by
    have hs := b1.size
    have hz := Z0.out
    obtain ⟨r1, r2⟩ := b2.rest (by omega) (by omega)
    have g1 : Blk W2 (w.heap.size + 1) #[.slice a N c] 55 := r2.trans (Y1.out.call b1)
    have hb : Below w.heap.size w W2 := (HB0.out.trans (b1.mono (by omega))).trans r1
    exact ⟨g1.cell 0, HV.out.call hb, HL.out.call hb⟩
  refine range_ok (by omega) (gf := 155) (lb := #[.pointer (some ⟨w.heap.size + 1, 0, none⟩)]) rfl (enters_of Tryz.func155 (by kernel_rfl) rfl)
    (scan_feeds (Kp := KpE w.heap.size (w.heap.size + 1)) 8 (by omega) W0 _ _ ws HWS.out (KpE.refl _ _) KpE.trans hread (fun _ _ => KpE.of_below)) KpE.trans (KpE.put (by have := Z0.out; omega) (by have := Z0.out; omega)) (Below.refl _ _) (fun _ => rfl)
    (fun p W => (EndI w.heap.size ws p W ∧ Blk W (w.heap.size + 1) #[.slice a N c] 55) ∧ Below w.heap.size w W)
    (fun c p W => False)
    (OwnFrom.and (fun s X Y row hs hg hr => ⟨EndI.own s X Y row hs.1 hg hr, hs.2.kept hg (fun r e => (hr r e).2)⟩) (ownFrom_below (by have := Z0.out; omega) (by have := Z0.out; omega)))
    (fun c s X Y row hs hg hr => hs)
    ⟨⟨⟨_, Nat.zero_le _, Y0.out, ⟨rfl, .inl ⟨rfl, rfl⟩⟩⟩, Y1.out⟩, HB0.out⟩ ?act ?assign ?body ?done ?stop
  case assign =>
    intro l x W K hK
    gi_wp2
    exact hK
  case body =>
    rintro l p ⟨s, x⟩ W ⟨hd, hs, y, hy, hx⟩ ⟨⟨⟨v, h1, hv, hr⟩, h7⟩, hB⟩
    dsimp only at hs hx
    subst hs hx
    obtain ⟨a3, c3, rfl⟩ := owns_ex hr
    obtain ⟨i, hi'⟩ : ∃ i, p.length = i := ⟨_, rfl⟩
    rw [hi'] at hd hy hv hr ⊢
    have HI := hid hi'
    have c0 := Boxed.cell hv
    have f0 := Boxed.frozen hv
    have n1 := HWS.out.pre i
    have n2 := HWS.out.pre (i + 1)
    have n3 := HWS.out.dig y (List.mem_of_getElem? hy)
    rw [pre_succ hy] at n2
    have PL := fun V hV => hid (pk_plus V (pre ws i) y (by omega) (by omega) (by omega) hV)
    rw [← pre_succ hy] at PL
    have hi3 : i < 64 := by have := HWS.out.len; omega
    obtain ⟨S0, hS0⟩ : ∃ s, numB (pre ws i) = s := ⟨_, rfl⟩
    obtain ⟨X0, hX0⟩ : ∃ s, numB y = s := ⟨_, rfl⟩
    obtain ⟨R0, hR0⟩ : ∃ s, numB (pre ws (i + 1)) = s := ⟨_, rfl⟩
    rw [hS0, hX0, hR0] at PL
    rw [hS0, hX0]
    have HR0 := hid hR0; have HD := hid hd; have HV3 := hid hv; have HR := hid hr; have H7 := hid h7; have HB := hid hB
    have hLay := hid (HL.out.call hB)
    clear hd hy hv hr h7 hB n1 n2 n3 hS0 hX0 hR0 hi' h1
    gi_wp2_with fail
    refine held_round (fun _ => True) (by kernel_rfl) (by kernel_rfl) ?_
    refine held_more (is := [1, 2]) (g := 5) (by kernel_rfl) rfl trivial (by kernel_rfl) ?_
    iterate 2
      refine ⟨_, rfl, ?_⟩
      apply Exists.intro
      refine ⟨.inl ⟨by rfl, ?_⟩, ?_⟩
      · (intro W' hW'; clear hW'; go_simp; try (with_reducible rfl))
      (dsimp only [Act.put]; try simp only [List.setIfInBounds_toArray, List.set_cons_zero, List.set_cons_succ])
    refine held_two (i := 0) (j := 3) (by kernel_rfl) (by rfl) (by rfl) (by rfl) (by rfl) ?_ ?_
    · go_wp2_with fail
      refine ⟨trivial, ?_⟩
      refine held_one (i := 3) (by kernel_rfl) (by rfl) (by rfl) ?_
      go_wp2_with fail
      refine (PL _ (hLay.out.call (Below.refl _ _).drew)).out.mono ?_; rintro e w1 ⟨rfl, hb1⟩
      have y1 := hid (show Below W.heap.size W w1 from (Below.refl _ _).drew.trans hb1)
      have V1 := hid (show Boxed w1 w.heap.size 55 (.slice a3 i c3) from Blk.call (show Blk W w.heap.size #[.slice a3 i c3] 55 from HV3.out) y1.out)
      have R1 := hid (owns_call HR.out y1.out)
      have G7 := hid (H7.out.call y1.out)
      have B1 := hid (HB.out.trans (y1.out.mono HB.out.size))
      have k1 := V1.out.cell
      have k2 := (Boxed.alloc V1.out (.cells #[.string R0] 23)).cell
      clear hb1 c0 f0
      go_wp2_with fail
      refine ⟨trivial, ?_⟩
      refine held_one (i := 4) (by kernel_rfl) (by rfl) (by rfl) ?_
      go_wp2_with fail
      refine ⟨trivial, ?_⟩
      clear k1 k2
      refine held_one (i := 5) (by kernel_rfl) (by rfl) (by rfl) ?_
      refine wpList_append_own _ rfl _ _ 55 rfl w.heap.size 23 i0 (.string ⟨#[]⟩) 1 16 Tryz.underlying55 hi hz0 hz1 hz2 rfl (by decide) _ i _ rfl (R1.out.alloc _) ⟨w1.heap.size, 0, none⟩ 1 1 [.string R0] rfl rfl (cell_one_new w1 (.string R0) 23) (by simp [Value.oneCell']) (by unfold maxLen; omega) (by omega) (by have := B1.out.size; simp; omega) ?_
      intro v' w3 hown3 hgrow3 _
      obtain ⟨g2, cap2, rfl⟩ := ownsRow_succ hown3
      obtain ⟨e1, e2, e3, e4, e5⟩ := Boxed.appended (B := w.heap.size) V1.out (by decide) R1.out (by have := B1.out.size; omega) (Nat.le_refl _) hown3 hgrow3
      have m0 := e1.cell
      have m1 := e1.frozen
      have h8 : Boxed w3 (w.heap.size + 1) 55 (.slice a N c) := Boxed.kept (Boxed.alloc (show Boxed w1 (w.heap.size + 1) 55 (.slice a N c) from G7.out) (.cells #[.string R0] 23)) hgrow3 (Boxed.not_row (show Boxed w1 (w.heap.size + 1) 55 (.slice a N c) from G7.out) (by decide) R1.out)
      have H8 := hid h8; have E2 := hid e2; have E3 := hid e3; have E4 := hid e4; have E5 := hid e5
      clear e1 e2 e3 e4 e5 hown3 hgrow3 h8
      go_wp2_with fail
      refine ⟨trivial, ?_⟩
      refine held_one (i := 6) (by kernel_rfl) (by rfl) (by rfl) ?_
      go_wp2_with fail
      refine ⟨trivial, ?_⟩
      refine wpAnyH_done (by kernel_rfl) ?_ _
      simp only [Only]
      gi_wp2_with fail
      have hk7 : Blk (w3.setCell ⟨w.heap.size, 0, none⟩ (.slice (some ⟨g2, 0, none⟩) (i + 1) cap2)) (w.heap.size + 1) #[.slice a N c] 55 := Blk.other (show Blk w3 (w.heap.size + 1) #[.slice a N c] 55 from H8.out) (by simp) _
      refine ⟨KeepsFrom.trans ⟨y1.out.size, fun k o hk ho hc => (y1.out.block k (Array.getElem?_eq_some_iff.1 ho).1).trans ho⟩ (E4.out.from _), ⟨Nat.le_trans y1.out.size E5.out.size, fun _ _ => ⟨(y1.out.mono HB.out.size).trans E5.out, hk7.trans (Eq.symm H7.out)⟩⟩, ⟨⟨_, ?_, E2.out, ?_⟩, hk7⟩, B1.out.trans E5.out⟩
      · rw [List.length_append, List.length_singleton, HI.out]; exact HD.out
      · rw [List.length_append, List.length_singleton, HI.out, endL_succ, strs_append, HR0.out]; exact E3.out
    · go_wp2_with fail
      refine (PL _ (hLay.out.call (Below.refl _ _).drew)).out.mono ?_; rintro e w1 ⟨rfl, hb1⟩
      have y1 := hid (show Below W.heap.size W w1 from (Below.refl _ _).drew.trans hb1)
      have V1 := hid (show Boxed w1 w.heap.size 55 (.slice a3 i c3) from Blk.call (show Blk W w.heap.size #[.slice a3 i c3] 55 from HV3.out) y1.out)
      have R1 := hid (owns_call HR.out y1.out)
      have G7 := hid (H7.out.call y1.out)
      have B1 := hid (HB.out.trans (y1.out.mono HB.out.size))
      have k1 := V1.out.cell
      have k2 := (Boxed.alloc V1.out (.cells #[.string R0] 23)).cell
      clear hb1 c0 f0
      go_wp2_with fail
      refine ⟨trivial, ?_⟩
      refine held_two (i := 0) (j := 4) (by kernel_rfl) (by rfl) (by rfl) (by rfl) (by rfl) ?_ ?_
      · go_wp2_with fail
        refine ⟨trivial, ?_⟩
        refine held_one (i := 4) (by kernel_rfl) (by rfl) (by rfl) ?_
        go_wp2_with fail
        refine ⟨trivial, ?_⟩
        clear k1 k2
        refine held_one (i := 5) (by kernel_rfl) (by rfl) (by rfl) ?_
        refine wpList_append_own _ rfl _ _ 55 rfl w.heap.size 23 i0 (.string ⟨#[]⟩) 1 16 Tryz.underlying55 hi hz0 hz1 hz2 rfl (by decide) _ i _ rfl (R1.out.alloc _) ⟨w1.heap.size, 0, none⟩ 1 1 [.string R0] rfl rfl (cell_one_new w1 (.string R0) 23) (by simp [Value.oneCell']) (by unfold maxLen; omega) (by omega) (by have := B1.out.size; simp; omega) ?_
        intro v' w3 hown3 hgrow3 _
        obtain ⟨g2, cap2, rfl⟩ := ownsRow_succ hown3
        obtain ⟨e1, e2, e3, e4, e5⟩ := Boxed.appended (B := w.heap.size) V1.out (by decide) R1.out (by have := B1.out.size; omega) (Nat.le_refl _) hown3 hgrow3
        have m0 := e1.cell
        have m1 := e1.frozen
        have h8 : Boxed w3 (w.heap.size + 1) 55 (.slice a N c) := Boxed.kept (Boxed.alloc (show Boxed w1 (w.heap.size + 1) 55 (.slice a N c) from G7.out) (.cells #[.string R0] 23)) hgrow3 (Boxed.not_row (show Boxed w1 (w.heap.size + 1) 55 (.slice a N c) from G7.out) (by decide) R1.out)
        have H8 := hid h8; have E2 := hid e2; have E3 := hid e3; have E4 := hid e4; have E5 := hid e5
        clear e1 e2 e3 e4 e5 hown3 hgrow3 h8
        go_wp2_with fail
        refine ⟨trivial, ?_⟩
        refine held_one (i := 6) (by kernel_rfl) (by rfl) (by rfl) ?_
        go_wp2_with fail
        refine ⟨trivial, ?_⟩
        refine wpAnyH_done (by kernel_rfl) ?_ _
        simp only [Only]
        gi_wp2_with fail
        have hk7 : Blk (w3.setCell ⟨w.heap.size, 0, none⟩ (.slice (some ⟨g2, 0, none⟩) (i + 1) cap2)) (w.heap.size + 1) #[.slice a N c] 55 := Blk.other (show Blk w3 (w.heap.size + 1) #[.slice a N c] 55 from H8.out) (by simp) _
        refine ⟨KeepsFrom.trans ⟨y1.out.size, fun k o hk ho hc => (y1.out.block k (Array.getElem?_eq_some_iff.1 ho).1).trans ho⟩ (E4.out.from _), ⟨Nat.le_trans y1.out.size E5.out.size, fun _ _ => ⟨(y1.out.mono HB.out.size).trans E5.out, hk7.trans (Eq.symm H7.out)⟩⟩, ⟨⟨_, ?_, E2.out, ?_⟩, hk7⟩, B1.out.trans E5.out⟩
        · rw [List.length_append, List.length_singleton, HI.out]; exact HD.out
        · rw [List.length_append, List.length_singleton, HI.out, endL_succ, strs_append, HR0.out]; exact E3.out
      · go_wp2_with fail
        refine ⟨trivial, ?_⟩
        refine held_one (i := 0) (by kernel_rfl) (by rfl) (by rfl) ?_
        go_wp2_with fail
        refine ⟨trivial, ?_⟩
        clear k1 k2
        refine held_one (i := 5) (by kernel_rfl) (by rfl) (by rfl) ?_
        refine wpList_append_own _ rfl _ _ 55 rfl w.heap.size 23 i0 (.string ⟨#[]⟩) 1 16 Tryz.underlying55 hi hz0 hz1 hz2 rfl (by decide) _ i _ rfl (R1.out.alloc _) ⟨w1.heap.size, 0, none⟩ 1 1 [.string R0] rfl rfl (cell_one_new w1 (.string R0) 23) (by simp [Value.oneCell']) (by unfold maxLen; omega) (by omega) (by have := B1.out.size; simp; omega) ?_
        intro v' w3 hown3 hgrow3 _
        obtain ⟨g2, cap2, rfl⟩ := ownsRow_succ hown3
        obtain ⟨e1, e2, e3, e4, e5⟩ := Boxed.appended (B := w.heap.size) V1.out (by decide) R1.out (by have := B1.out.size; omega) (Nat.le_refl _) hown3 hgrow3
        have m0 := e1.cell
        have m1 := e1.frozen
        have h8 : Boxed w3 (w.heap.size + 1) 55 (.slice a N c) := Boxed.kept (Boxed.alloc (show Boxed w1 (w.heap.size + 1) 55 (.slice a N c) from G7.out) (.cells #[.string R0] 23)) hgrow3 (Boxed.not_row (show Boxed w1 (w.heap.size + 1) 55 (.slice a N c) from G7.out) (by decide) R1.out)
        have H8 := hid h8; have E2 := hid e2; have E3 := hid e3; have E4 := hid e4; have E5 := hid e5
        clear e1 e2 e3 e4 e5 hown3 hgrow3 h8
        go_wp2_with fail
        refine ⟨trivial, ?_⟩
        refine held_one (i := 6) (by kernel_rfl) (by rfl) (by rfl) ?_
        go_wp2_with fail
        refine ⟨trivial, ?_⟩
        refine wpAnyH_done (by kernel_rfl) ?_ _
        simp only [Only]
        gi_wp2_with fail
        have hk7 : Blk (w3.setCell ⟨w.heap.size, 0, none⟩ (.slice (some ⟨g2, 0, none⟩) (i + 1) cap2)) (w.heap.size + 1) #[.slice a N c] 55 := Blk.other (show Blk w3 (w.heap.size + 1) #[.slice a N c] 55 from H8.out) (by simp) _
        refine ⟨KeepsFrom.trans ⟨y1.out.size, fun k o hk ho hc => (y1.out.block k (Array.getElem?_eq_some_iff.1 ho).1).trans ho⟩ (E4.out.from _), ⟨Nat.le_trans y1.out.size E5.out.size, fun _ _ => ⟨(y1.out.mono HB.out.size).trans E5.out, hk7.trans (Eq.symm H7.out)⟩⟩, ⟨⟨_, ?_, E2.out, ?_⟩, hk7⟩, B1.out.trans E5.out⟩
        · rw [List.length_append, List.length_singleton, HI.out]; exact HD.out
        · rw [List.length_append, List.length_singleton, HI.out, endL_succ, strs_append, HR0.out]; exact E3.out
  case done =>
    rintro D' xs W hD hS ⟨⟨⟨v, h1, hv, hr⟩, h7⟩, hB⟩ hK
    rw [hS] at hr
    obtain ⟨a3, c3, rfl⟩ := owns_ex hr
    have c0 := Boxed.cell hv
    have hrow : Row (W.putObj D' (.deferred none)) _ (strs (endL ws ws.length)) := Row.put (Row.of_owns hr) hK _
    have HROW := hid hrow; have HB := hid hB; have HK := hid hK; have HDD := hid hD
    clear hS h1 hv hr h7 hB hK hrow hD
    gi_wp2_with fail
    refine marks_end HK.out (v := .slice a3 ws.length c3) (by simp [results, Tryz.results77, go_sem]) ⟨⟨_, rfl, HROW.out⟩, ?_⟩
    exact HB.out.trans (belowK_b (w := w) (Nat.le_refl _) _ D' _ _ (by have := Z0.out; have := HDD.out; omega) HK.out rfl rfl)
  case stop =>
    rintro D' c p W hD - h hK
    exact h.elim
end Go.Proofs.YtpehhgkghgbhiaaGreatDoor
namespace Go.Proofs.YtpehhgkghgbhiaaGreatDoor
open Go.RowKit Go.Shelf
open Go.Lib (decDigits nDigits)
set_option linter.unusedVariables false
set_option linter.unusedSimpArgs false
theorem pk_cmp (V : World) (x y : Nat) (hx : nDigits x ≤ 4000) (hy : nDigits y ≤ 4000) : Calls Tryz.prog 94 #[.string (numB x), .string (numB y)] V fun e w' => e = .returned (.int .i64 (ordN x y)) ∧ Below V.heap.size V w' := by
  refine (n_Cmp V _ _ (numB_sz hx) (numB_sz hy)).mono ?_
  rintro e w' ⟨rfl, hb⟩
  exact ⟨by rw [cmpN_num hx hy], hb⟩
theorem ordN_pos {a b : Nat} : decide (ordN a b > 0) = decide (b < a) := by
  unfold ordN
  by_cases h1 : a < b
  · rw [if_pos h1]; simp; omega
  · rw [if_neg h1]
    by_cases h2 : b < a
    · rw [if_pos h2]; simp [h2]
    · rw [if_neg h2]; simp; omega
/-- Weights and a cell whose products can be computed with. -/
structure CellOk (ws : List Nat) (t low : Nat) : Prop where
  t : nDigits t ≤ 100
  ws : nDigits ws.sum ≤ 3802
  low : nDigits low ≤ 3990
theorem CellOk.mul {ws : List Nat} {t low : Nat} (h : CellOk ws t low) (i : Nat) : nDigits (pre ws i * t) ≤ 3902 := nd_mul (nd_pre i h.ws) h.t (by omega)
set_option maxRecDepth 100000 in
set_option maxHeartbeats 2000000 in
theorem p_test (w : World) (bt b2 bl : Nat) (v : Value) (ws : List Nat) (i t low : Nat) (hi : i < ws.length) (hok : CellOk ws t low) (hT : Blk w bt #[v] 55) (hv : Row w v (strs (endL ws ws.length))) (h2 : Blk w b2 #[.string (numB t)] 23) (hl : Blk w bl #[.string (numB low)] 23) (hL : Lay w) (hlen : ws.length ≤ 64) :
    Calls Tryz.prog 93 #[.int .i64 (i : Nat), .pointer (some ⟨bt, 0, none⟩), .pointer (some ⟨b2, 0, none⟩), .pointer (some ⟨bl, 0, none⟩)] w fun e w' => e = .returned (.bool (decide (low < pre ws (i + 1) * t))) ∧ Below w.heap.size w w' := by
  obtain ⟨a, c, rfl, q1, q2, q3⟩ := hv.openS
  rw [endL_length] at hT q1 hv
  obtain ⟨g, o, rfl, hg, hc⟩ := q3 i _ (endL_get hi)
  have PT := fun V hV => hid (pk_times V (pre ws (i + 1)) t (by have := nd_pre (i + 1) hok.ws; omega) (by have := hok.t; omega) (by have := hok.mul (i + 1); omega) hV)
  have PC := fun V => hid (pk_cmp V (pre ws (i + 1) * t) low (by have := hok.mul (i + 1); omega) (by have := hok.low; omega))
  obtain ⟨E0, hE0⟩ : ∃ s, numB (pre ws (i + 1)) = s := ⟨_, rfl⟩
  obtain ⟨T0, hT0⟩ : ∃ s, numB t = s := ⟨_, rfl⟩
  obtain ⟨M0, hM0⟩ : ∃ s, numB (pre ws (i + 1) * t) = s := ⟨_, rfl⟩
  obtain ⟨L0, hL0⟩ : ∃ s, numB low = s := ⟨_, rfl⟩
  obtain ⟨z, hz⟩ : ∃ z, ordN (pre ws (i + 1) * t) low = z := ⟨_, rfl⟩
  have hzz := hid (show decide (z > 0) = decide (low < pre ws (i + 1) * t) from by rw [← hz]; exact ordN_pos)
  rw [hE0, hT0, hM0] at PT
  rw [hM0, hL0, hz] at PC
  rw [hE0] at hc
  rw [hT0] at h2
  rw [hL0] at hl
  have KK : Hid (∀ w', Below w.heap.size w w' → w'.cell? ⟨bt, 0, none⟩ = some (.slice (some ⟨g, o, none⟩) ws.length c) ∧ w'.cell? ⟨g, o + i, none⟩ = some (.string E0) ∧ w'.cell? ⟨b2, 0, none⟩ = some (.string T0) ∧ w'.cell? ⟨bl, 0, none⟩ = some (.string L0)) := fun w' hb =>
    ⟨(hT.call hb).cell 0, (hb.cell hg).trans hc, (h2.call hb).cell 0, (hl.call hb).cell 0⟩
  have HL := hid hL
  have b1 : (0 : Int) ≤ (i : Int) := by omega
  obtain ⟨n, hn⟩ : ∃ n, ws.length = n := ⟨_, rfl⟩
  rw [hn] at KK q1 hi hlen
  have b2' : (i : Int) < (n : Int) := by omega
  rw [← hzz.out]
  clear hT hv h2 hl hL q3 hc hE0 hT0 hM0 hL0 hz hzz hok hn hi hg
  go_enter Tryz.func93, Tryz.ntmps93
  go_wp2_with fail
  refine held_plain [0, 1, 2, 3, 4, 6] 4 (fun w' => w'.cell? ⟨bt, 0, none⟩ = some (.slice (some ⟨g, o, none⟩) n c) ∧ w'.cell? ⟨g, o + i, none⟩ = some (.string E0) ∧ w'.cell? ⟨b2, 0, none⟩ = some (.string T0) ∧ w'.cell? ⟨bl, 0, none⟩ = some (.string L0)) (by kernel_rfl) (by kernel_rfl) (by kernel_rfl) (by kernel_rfl) (KK.out _ (Below.refl _ _).drew) ?_
  iterate 6
    refine ⟨_, rfl, ?_⟩
    apply Exists.intro
    refine ⟨.inl ⟨by rfl, ?_⟩, ?_⟩
    · (intro W' hW'; obtain ⟨q1, q2, q3, q4⟩ := hW'; go_simp; try (with_reducible rfl))
    (dsimp only [Act.put]; try simp only [List.setIfInBounds_toArray, List.set_cons_zero, List.set_cons_succ])
  refine held_one (i := 5) (by kernel_rfl) (by rfl) (by rfl) ?_
  go_wp2_with fail
  refine (PT _ (HL.out.call (Below.refl _ _).drew)).out.mono ?_; rintro e w1 ⟨rfl, hb1⟩
  have y1 := hid (show Below w.heap.size w w1 from (Below.refl _ _).drew.trans hb1)
  clear hb1
  go_wp2_with fail
  refine ⟨KK.out _ y1.out, ?_⟩
  refine held_one (i := 7) (by kernel_rfl) (by rfl) (by rfl) ?_
  go_wp2_with fail
  refine (PC _).out.mono ?_; rintro e w2 ⟨rfl, hb2⟩
  have y2 := hid (bnext y1.out hb2)
  clear hb2
  go_wp2_with fail
  refine ⟨KK.out _ y2.out, ?_⟩
  refine held_more (is := [8, 9]) (g := 0) (by kernel_rfl) rfl (KK.out _ y2.out) (by kernel_rfl) ?_
  iterate 2
    refine ⟨_, rfl, ?_⟩
    apply Exists.intro
    refine ⟨.inl ⟨by rfl, ?_⟩, ?_⟩
    · (intro W' hW'; obtain ⟨q1, q2, q3, q4⟩ := hW'; go_simp; try (with_reducible rfl))
    (dsimp only [Act.put]; try simp only [List.setIfInBounds_toArray, List.set_cons_zero, List.set_cons_succ])
  refine wpAnyH_done (by kernel_rfl) ?_ _
  simp only [Only]
  go_wp2_with fail
  go_ret
  exact ⟨rfl, y2.out⟩
/-- A test that may be searched by, in every later world. -/
def SrOk (F : Nat) (cs : Array Value) (p : Nat → Bool) (n : Nat) (w : World) : Prop :=
  ∀ (W : World) (i : Nat), Below w.heap.size w W → i < n → Calls Tryz.prog F (#[.int .i64 (i : Nat)] ++ cs) W fun e w' => e = .returned (.bool (p i)) ∧ Below W.heap.size W w'
set_option maxRecDepth 100000 in
set_option maxHeartbeats 2000000 in
theorem s_Search (w : World) (n F : Nat) (cs : Array Value) (p : Nat → Bool) (hn : n ≤ 1000000) (hen : ∀ args w, (callFunc F args).run Tryz.prog w = .ok (.enter F args) w) (hF : SrOk F cs p n w) (hm : ∀ x y, x ≤ y → y < n → p x = true → p y = true) :
    Calls Tryz.prog 92 #[.int .i64 (n : Nat), .func (.func F) #[] cs] w fun e w' => e = .returned (.int .i64 (fstI p n : Nat)) ∧ Below w.heap.size w w' := by
  have HF := fun W i h1 h2 => hid (hF W i h1 h2)
  have HM := hid hm
  have B0 := hid (Below.refl w.heap.size w)
  clear hF hm
  go_enter Tryz.func92, Tryz.ntmps92
  go_wp2_with fail
  go_loopw [5, 6] (fun ii jj wr => ∃ i j : Nat, ii = .int .i64 (i : Nat) ∧ jj = .int .i64 (j : Nat) ∧ i ≤ j ∧ j ≤ n ∧ Hid (∀ x, x < i → p x = false) ∧ Hid (j < n → p j = true) ∧ Hid (Below w.heap.size w wr)) (fun ii jj wr => (intOf jj).toNat - (intOf ii).toNat)
  case atStart => exact ⟨0, n, rfl, rfl, Nat.zero_le _, Nat.le_refl _, fun x hx => absurd hx (by omega), fun h => absurd h (by omega), B0.out⟩
  case round =>
    obtain ⟨i, j, rfl, rfl, hij, hjn, hI, hJ, hB⟩ := hrel
    by_cases hlt : i < j
    · have f1 : (i : Int) < (j : Int) := by omega
      obtain ⟨h, hh⟩ : ∃ h, (i + j) / 2 = h := ⟨_, rfl⟩
      have hh1 : i ≤ h := by omega
      have hh2 : h < j := by omega
      have e1 : IntKind.i64.wrap ((i : Int) + (j : Int)) = (i : Int) + (j : Int) := by rw [IntWalk.i64_in _ ⟨by omega, by omega⟩]
      have e2 : ((i : Int) + (j : Int)) / 2 = (h : Int) := by omega
      have e3 : IntKind.i64.wrap ((h : Int) + 1) = ((h + 1 : Nat) : Int) := by rw [IntWalk.i64_in _ ⟨by omega, by omega⟩]; omega
      obtain ⟨z, hz⟩ : ∃ z, p h = z := ⟨_, rfl⟩
      have HZ := hid hz
      have C := HF wr h hB.out (by omega)
      rw [hz] at C
      have E1 := hid e1; have E3 := hid e3
      clear hz hh e3
      go_wp2_with fail
      refine C.out.mono ?_; rintro e w1 ⟨rfl, hb1⟩
      have y1 := hid (bnext hB.out hb1)
      clear hb1
      have e3 := E3.out
      cases z
      · go_wp2_with fail
        go_roundw
        case rel => exact ⟨h + 1, j, rfl, rfl, by omega, by omega, fun x hx => by
          have := HM.out x h (by omega) (by omega)
          cases hc : p x
          · rfl
          · rw [this hc] at HZ; exact absurd HZ.out (by simp), hJ, y1⟩
        case measure => simp [intOf] <;> omega
      · go_wp2_with fail
        go_roundw
        case rel => exact ⟨i, h, rfl, rfl, by omega, by omega, hI, fun _ => HZ.out, y1⟩
        case measure => simp [intOf] <;> omega
    · obtain rfl : i = j := by omega
      have q0 : decide ((i : Int) < (i : Int)) = false := by simp
      clear hlt hij
      go_wp2_with fail
      go_ret
      refine ⟨?_, hB.out⟩
      rw [fstI_eq hjn hI.out hJ.out]
      rfl
end Go.Proofs.YtpehhgkghgbhiaaGreatDoor
namespace Go.Proofs.YtpehhgkghgbhiaaGreatDoor
open Go.RowKit Go.Shelf
open Go.Lib (decDigits nDigits)
set_option linter.unusedVariables false
set_option linter.unusedSimpArgs false
theorem pk_le {a b : Nat} : decide (ordN a b ≤ 0) = decide (a ≤ b) := by
  unfold ordN
  split
  · simp; omega
  · split <;> simp <;> omega
set_option maxRecDepth 100000 in
set_option maxHeartbeats 4000000 in
theorem p_dec (w0 : World) (ba bt : Nat) (v : Value) (ws : List Nat) (hA : Blk w0 ba #[.string (numB ws.sum)] 23) (hT : Blk w0 bt #[v] 55) (hv : Row w0 v (strs (endL ws ws.length))) (hws : WsOk ws) (hL : Lay w0) :
    DecOk 90 #[.pointer (some ⟨ba, 0, none⟩), .pointer (some ⟨bt, 0, none⟩)] (pkF ws) w0 := by
  intro w k u hw hk hu
  obtain ⟨a, c, rfl, q1, q2, -⟩ := hv.openS
  rw [endL_length] at hT q1 hv
  obtain ⟨t, ht⟩ : ∃ t, 2 ^ u = t := ⟨_, rfl⟩
  have t1 := two_nd (u := u) (by omega)
  rw [ht] at hk t1 ⊢
  have HA := hid (hA.call hw); have HT := hid (hT.call hw); have HV := hid (hv.call hw); have HL := hid (hL.call hw); have HWS := hid hws
  have nk : nDigits k ≤ 100 := Nat.le_trans (nDigits_mono (Nat.le_of_lt hk)) t1
  have ns := hws.sum
  have nl : nDigits (k * ws.sum) ≤ 3902 := by have := nd_mul nk ns (by omega); omega
  have OK := hid (CellOk.mk (ws := ws) (t := t) (low := k * ws.sum) t1 ns (by omega))
  have P1 := fun V hV => hid (pk_times V k ws.sum (by omega) (by omega) (by omega) hV)
  have P2 := fun V hV => hid (pk_plus V (k * ws.sum) ws.sum (by omega) (by omega) (by have := nd_add nl (show nDigits ws.sum ≤ 3902 by omega); omega) hV)
  have P3 := fun V i hV => hid (pk_times V (pre ws (i + 1)) t (by have := hws.pre (i + 1); omega) (by omega) (by have := OK.out.mul (i + 1); omega) hV)
  have P4 := fun V i => hid (pk_cmp V (k * ws.sum + ws.sum) (pre ws (i + 1) * t) (by have := nd_add nl (show nDigits ws.sum ≤ 3902 by omega); omega) (by have := OK.out.mul (i + 1); omega))
  have PT := fun V i (bl : Nat) (h1 : i < ws.length) h2 h3 h4 h5 h6 => hid (p_test V bt w.heap.size bl (.slice a ws.length c) ws i t (k * ws.sum) h1 OK.out h2 h3 h4 h5 h6 hws.len)
  obtain ⟨n, hn⟩ : ∃ n, ws.length = n := ⟨_, rfl⟩
  have HN := hid hn
  have hnl : n ≤ 64 := by rw [← hn]; exact hws.len
  obtain ⟨i, hi⟩ : ∃ i, fstI (fun i => decide (k * ws.sum < pre ws (i + 1) * t)) ws.length = i := ⟨_, rfl⟩
  have HI := hid hi
  have hpk : pkF ws k t = (i, decide (i < n) && decide (k * ws.sum + ws.sum ≤ pre ws (i + 1) * t)) := by unfold pkF; rw [hi, hn]
  have hmono : Hid (∀ x y, x ≤ y → y < n → (decide (k * ws.sum < pre ws (x + 1) * t)) = true → (decide (k * ws.sum < pre ws (y + 1) * t)) = true) := fun x y hxy _ h => by
    simp only [decide_eq_true_eq] at h ⊢
    exact Nat.lt_of_lt_of_le h (Nat.mul_le_mul_right _ (pre_mono ws (by omega)))
  rw [hpk]
  rw [hn] at HT q1 HV PT hi
  have HI2 := hid hi
  clear hi HI
  obtain ⟨K0, hK0⟩ : ∃ s, numB k = s := ⟨_, rfl⟩
  obtain ⟨S0, hS0⟩ : ∃ s, numB ws.sum = s := ⟨_, rfl⟩
  obtain ⟨L0, hL0⟩ : ∃ s, numB (k * ws.sum) = s := ⟨_, rfl⟩
  obtain ⟨T0, hT0⟩ : ∃ s, numB t = s := ⟨_, rfl⟩
  obtain ⟨M0, hM0⟩ : ∃ s, numB (k * ws.sum + ws.sum) = s := ⟨_, rfl⟩
  rw [hK0, hS0, hL0] at P1
  rw [hL0, hS0, hM0] at P2
  simp only [hT0] at P3
  simp only [hM0] at P4
  rw [hS0] at HA
  have E4 : Hid (numB t = T0) := hT0
  have E5 : Hid (numB (k * ws.sum) = L0) := hL0
  rw [hK0, hT0]
  clear hv hT hA hL hws hw hk hn hpk nk ns nl t1 ht hK0 hS0 hL0 hT0 hM0
  have c0 := HA.out.cell 0
  have c1 := HT.out.cell 0
  have lt1 := HA.out.lt
  have lt2 := HT.out.lt
  simp at c0 c1
  go_enter Tryz.func90, Tryz.ntmps90
  go_wp2_with fail
  have A0 := hid ((Below.refl w.heap.size w).alloc (Nat.le_refl _) (.cells #[.string T0] 23))
  refine (P1 _ (HL.out.call A0.out)).out.mono ?_; rintro e w1 ⟨rfl, hb1⟩
  have y1 := hid (A0.out.trans (hb1.mono A0.out.size))
  have B2 := hid ((Blk.new w #[.string T0] 23).call hb1)
  have l1 := hb1.size
  simp at l1
  have HA1 := hid (HA.out.call y1.out); have HT1 := hid (HT.out.call y1.out); have HV1 := hid (HV.out.call y1.out); have HL1 := hid (HL.out.call y1.out)
  have c1 := HT1.out.cell 0
  have c2 := HA1.out.cell 0
  simp at c1 c2
  have c5 : (w1.alloc (Obj.cells #[Value.string L0] 23)).cell? ⟨bt, 0, none⟩ = some (.slice a n c) := (HT1.out.alloc (.cells #[.string L0] 23)).cell 0
  clear hb1 c0
  go_wp2_with fail
  have Z0 := hid ((Below.refl w1.heap.size w1).alloc (Nat.le_refl _) (.cells #[.string L0] 23))
  have SR : SrOk 93 #[.pointer (some ⟨bt, 0, none⟩), .pointer (some ⟨w.heap.size, 0, none⟩), .pointer (some ⟨w1.heap.size, 0, none⟩)] (fun i => decide (k * ws.sum < pre ws (i + 1) * t)) n (w1.alloc (.cells #[.string L0] 23)) := fun W j hb hj =>
    (PT W j w1.heap.size hj ((HT1.out.call Z0.out).call hb) ((HV1.out.call Z0.out).call hb) (by rw [E4.out]; exact (B2.out.call Z0.out).call hb) (by rw [E5.out]; exact (Blk.new w1 _ _).call hb) ((HL1.out.call Z0.out).call hb)).out
  refine (s_Search _ n _ _ _ (by omega) (enters_of Tryz.func93 (by kernel_rfl) rfl) SR hmono.out).mono ?_; rintro e w3 ⟨rfl, hb3⟩
  rw [HI2.out]
  have z3 := hid (Z0.out.trans (hb3.mono Z0.out.size))
  have y3 := hid (bnext y1.out z3.out)
  have B3 := hid ((B2.out.call Z0.out).call hb3)
  have D3 := hid ((Blk.new w1 #[.string L0] 23).call hb3)
  have HA3 := hid (HA1.out.call z3.out); have HT3 := hid (HT1.out.call z3.out); have HV3 := hid (HV1.out.call z3.out); have HL3 := hid (HL1.out.call z3.out)
  have c3 := HT3.out.cell 0
  simp at c3
  clear hb3 c1 c2 c5 SR
  by_cases hlt : i < n
  · have q3 : decide ((i : Int) < (n : Int)) = true := by simp; omega
    have b1 : (0 : Int) ≤ (i : Int) := by omega
    have b2 : (i : Int) < (n : Int) := by omega
    obtain ⟨a', c', e', -, -, hcell⟩ := HV3.out.openS
    simp only [Value.slice.injEq] at e'
    obtain ⟨rfl, -, rfl⟩ := e'
    obtain ⟨g, o, rfl, hg, hc⟩ := hcell i _ (endL_get hlt)
    have P3' := fun V hV => P3 V i hV
    have P4' := fun V => P4 V i
    obtain ⟨X0, hX0⟩ : ∃ s, numB (pre ws (i + 1)) = s := ⟨_, rfl⟩
    obtain ⟨Y0, hY0⟩ : ∃ s, numB (pre ws (i + 1) * t) = s := ⟨_, rfl⟩
    obtain ⟨z, hz⟩ : ∃ z, ordN (k * ws.sum + ws.sum) (pre ws (i + 1) * t) = z := ⟨_, rfl⟩
    have hzz := hid (show decide (z ≤ 0) = decide (k * ws.sum + ws.sum ≤ pre ws (i + 1) * t) from by rw [← hz]; exact pk_le)
    rw [hX0, hY0] at P3'
    rw [hY0, hz] at P4'
    rw [hX0] at hc
    have KK : Hid (∀ w', Below w3.heap.size w3 w' → w'.cell? ⟨bt, 0, none⟩ = some (.slice (some ⟨g, o, none⟩) n c) ∧ w'.cell? ⟨g, o + i, none⟩ = some (.string X0) ∧ w'.cell? ⟨w.heap.size, 0, none⟩ = some (.string T0) ∧ w'.cell? ⟨w1.heap.size, 0, none⟩ = some (.string L0) ∧ w'.cell? ⟨ba, 0, none⟩ = some (.string S0)) := fun w' hb =>
      ⟨(HT3.out.call hb).cell 0, (hb.cell hg).trans hc, (B3.out.call hb).cell 0, (D3.out.call hb).cell 0, (HA3.out.call hb).cell 0⟩
    have HLT := hid hlt
    clear hcell hc hX0 hY0 hz hlt c3
    go_wp2_with fail
    go_region_held3 (fun w' => w'.cell? ⟨bt, 0, none⟩ = some (.slice (some ⟨g, o, none⟩) n c) ∧ w'.cell? ⟨g, o + i, none⟩ = some (.string X0) ∧ w'.cell? ⟨w.heap.size, 0, none⟩ = some (.string T0) ∧ w'.cell? ⟨w1.heap.size, 0, none⟩ = some (.string L0) ∧ w'.cell? ⟨ba, 0, none⟩ = some (.string S0))
      (first
        | exact KK.out _ (Below.refl _ _).drew
        | exact KK.out _ Y6.out
        | exact KK.out _ Y5.out
        | exact KK.out _ Y4.out)
      (first
        | (go_at_call 95; refine (P2 _ (HL3.out.call (Below.refl _ _).drew)).out.mono ?_; rintro e w4 ⟨rfl, hb4⟩; have Y4 := hid (show Below w3.heap.size w3 w4 from (Below.refl _ _).drew.trans hb4); clear hb4)
        | (go_at_call 91; refine (P3' _ (HL3.out.call Y4.out)).out.mono ?_; rintro e w5 ⟨rfl, hb5⟩; have Y5 := hid (bnext Y4.out hb5); clear hb5)
        | (go_at_call 94; refine (P4' _).out.mono ?_; rintro e w6 ⟨rfl, hb6⟩; have Y6 := hid (bnext Y5.out hb6); clear hb6))
    go_wp2_with fail
    go_ret2
    exact ⟨by rw [hzz.out]; simp [HLT.out], bnext y3.out Y6.out⟩
  · have q3 : decide ((i : Int) < (n : Int)) = false := by simp; omega
    have HLT := hid hlt
    have q4 : decide (i < n) = false := by simp; omega
    have Q4 := hid q4
    clear hlt q3 q4
    go_wp2_with fail
    refine held_plain [0, 1, 2, 3, 4, 5] 14 (fun w' => w'.cell? ⟨bt, 0, none⟩ = some (.slice a n c)) (by kernel_rfl) (by kernel_rfl) (by kernel_rfl) (by kernel_rfl) c3 ?_
    iterate 6
      refine ⟨_, rfl, ?_⟩
      apply Exists.intro
      refine ⟨.inl ⟨by rfl, ?_⟩, ?_⟩
      · (intro W' hW'; obtain q1 := hW'; go_simp; try (with_reducible rfl))
      (dsimp only [Act.put]; try simp only [List.setIfInBounds_toArray, List.set_cons_zero, List.set_cons_succ])
    rw [Q4.out]
    refine held_more (is := [6, 7, 8, 9, 10, 11, 12, 13, 14, 15, 16]) (g := 3) (by kernel_rfl) rfl c3 (by kernel_rfl) ?_
    iterate 11
      refine ⟨_, rfl, ?_⟩
      apply Exists.intro
      refine ⟨.inr ⟨by rfl, rfl⟩, ?_⟩
      (dsimp only [Act.put]; try simp only [List.setIfInBounds_toArray, List.set_cons_zero, List.set_cons_succ])
    refine held_more (is := [17, 18, 19]) (g := 0) (by kernel_rfl) rfl c3 (by kernel_rfl) ?_
    iterate 3
      refine ⟨_, rfl, ?_⟩
      apply Exists.intro
      refine ⟨.inl ⟨by rfl, ?_⟩, ?_⟩
      · (intro W' hW'; obtain q1 := hW'; go_simp; try (with_reducible rfl))
      (dsimp only [Act.put]; try simp only [List.setIfInBounds_toArray, List.set_cons_zero, List.set_cons_succ])
    refine wpAnyH_done (by kernel_rfl) ?_ _
    simp only [Only]
    go_wp2_with fail
    go_ret2
    exact ⟨by simp [HLT.out], y3.out.drew⟩
end Go.Proofs.YtpehhgkghgbhiaaGreatDoor
namespace Go.Proofs.YtpehhgkghgbhiaaGreatDoor
open Go.RowKit Go.Shelf
open Go.Lib (decDigits nDigits)
set_option linter.unusedVariables false
set_option linter.unusedSimpArgs false
theorem wtE_ok : ∀ (l : List ByteArray), wtE l = 0 → ∀ b ∈ l, b = numB (bN b) ∧ nDigits (bN b) ≤ 3800
  | [], _, b, hb => by simp at hb
  | x :: r, h, b, hb => by
    unfold wtE at h
    by_cases h1 : errN x.data.toList ≠ 0
    · rw [if_pos h1] at h; exact absurd h h1
    · rw [if_neg h1] at h
      by_cases h2 : 3800 < x.size
      · rw [if_pos h2] at h; exact absurd h (by decide)
      · rw [if_neg h2] at h
        rcases List.mem_cons.1 hb with rfl | hb
        · obtain ⟨a, e, h3⟩ := errN_zero.1 (Decidable.not_not.1 h1)
          have ha : bN b = a := by rw [bN, e, dv_dec]
          have hb2 : b = numB a := by apply ba_ext; rw [numB_list]; exact e
          rw [ha]
          refine ⟨hb2, ?_⟩
          have := numB_size a
          rw [← hb2] at this
          omega
        · exact wtE_ok r h b hb
theorem wsE_ok {l : List ByteArray} (h : wsE l = 0) : l = (l.map bN).map numB ∧ WsOk (l.map bN) ∧ 1 ≤ l.length := by
  unfold wsE at h
  by_cases h1 : l.length = 0 ∨ 64 < l.length
  · rw [if_pos h1] at h; exact absurd h (by decide)
  · rw [if_neg h1] at h
    by_cases h2 : wtE l ≠ 0
    · rw [if_pos h2] at h; exact absurd h h2
    · have h3 := wtE_ok l (Decidable.not_not.1 h2)
      refine ⟨?_, ⟨by rw [List.length_map]; omega, fun x hx => ?_⟩, by omega⟩
      · rw [List.map_map]
        conv => lhs; rw [← List.map_id l]
        exact List.map_congr_left fun b hb => (h3 b hb).1
      · obtain ⟨b, hb, rfl⟩ := List.mem_map.1 hx
        exact (h3 b hb).2
/-- The error of Draw, its result. -/
def drE (l : List ByteArray) (b : ByteArray) : Int := if wsE l ≠ 0 then wsE l else chkE b
def dr3 (l : List ByteArray) (b : ByteArray) : Bool × Nat × Nat := if drE l b = 0 then pdr (pkF (l.map bN)) 0 1 b.data.toList else (false, 0, 0)
theorem chkE_size {b : ByteArray} (h : chkE b = 0) : b.size ≤ 256 := by
  unfold chkE at h
  split at h
  · split at h
    · exact absurd h (by decide)
    · omega
  · exact absurd h (by decide)
set_option maxRecDepth 100000 in
set_option maxHeartbeats 4000000 in
theorem p_Draw (w : World) (v : Value) (l : List ByteArray) (b : ByteArray) (hv : Row w v (strs l)) (hl : ∀ x ∈ l, x.size ≤ 1000000) (hb : b.size ≤ 100000000) (hL : Lay w) :
    Calls Tryz.prog 53 #[v, .string b] w fun e w' => e = .returned (.tuple #[dw3 (dr3 l b), .int .i64 (drE l b)]) ∧ Below w.heap.size w w' := by
  have PC := fun V hV => hid (p_check V v l hV hl)
  have PD := fun V => hid (p_checked V b hb)
  have PE := fun V hws hV hLV => hid (p_ends V v (l.map bN) hws hV hLV)
  have HL := hid hL; have HV := hid hv
  obtain ⟨a, c, rfl, q1, q2, -⟩ := hv.openS
  obtain ⟨N, hN⟩ : ∃ N, l.length = N := ⟨_, rfl⟩
  have HN := hid hN
  rw [hN] at PC PE q1 HV ⊢
  clear hv hL hl hN
  have A0 := hid ((Below.refl w.heap.size w).alloc (Nat.le_refl _) (.cells #[.bool false, .int .i64 0, .int .i64 0] 48))
  have x0 := hid (Blk.new w #[.bool false, .int .i64 0, .int .i64 0] 48)
  obtain ⟨z, hz⟩ : ∃ z, wsE l = z := ⟨_, rfl⟩
  obtain ⟨y, hy⟩ : ∃ y, chkE b = y := ⟨_, rfl⟩
  have HZ := hid hz; have HY := hid hy
  rw [hz] at PC
  rw [hy] at PD
  by_cases h0 : z = 0
  · by_cases h1 : y = 0
    · obtain ⟨D1, D2, D3⟩ := wsE_ok (hz.trans h0)
      have hE : drE l b = 0 := by unfold drE; rw [hz, hy, h0, h1]; simp
      have hR : dr3 l b = pdr (pkF (l.map bN)) 0 1 b.data.toList := by unfold dr3; rw [if_pos hE]
      rw [hE, hR]
      have h256 := chkE_size (hy.trans h1)
      obtain ⟨ws, hws⟩ : ∃ ws, l.map bN = ws := ⟨_, rfl⟩
      rw [hws] at PE D1 D2 ⊢
      have HWS := hid D2
      have hlen : ws.length = N := by rw [← hws, List.length_map]; exact HN.out
      have HD1 := hid D1
      rw [HN.out] at D3
      obtain ⟨m, rfl⟩ : ∃ m, N = m + 1 := ⟨N - 1, by omega⟩
      have HLEN := hid hlen
      have hm : m < 64 := by have := D2.len; omega
      subst h0 h1
      clear D1 D2 D3 hE hR hz hy hws hlen hb
      go_enter Tryz.func53, Tryz.ntmps53
      go_wp2_with fail
      refine (PC _ (HV.out.call A0.out)).out.mono ?_; rintro e w1 ⟨rfl, hb1⟩
      have y1 := hid (bnext A0.out hb1); have k1 := hid (x0.out.call hb1)
      clear hb1
      go_wp2_with fail
      refine (PD _).out.mono ?_; rintro e w2 ⟨rfl, hb2⟩
      have y2 := hid (bnext y1.out hb2); have k2 := hid (k1.out.call hb2)
      clear hb2
      go_wp2_with fail
      refine (PE _ HWS.out (by rw [← HD1.out]; exact HV.out.call y2.out) (HL.out.call y2.out)).out.mono ?_; rintro e w3 ⟨⟨u, rfl, hu⟩, hb3⟩
      have y3 := hid (bnext y2.out hb3); have k3 := hid (k2.out.call hb3)
      clear hb3
      have hu2 := hid hu
      obtain ⟨a5, c5, rfl, r1, r2, r3⟩ := hu.openS
      rw [endL_length] at hu2 r1 ⊢
      obtain ⟨g, o, rfl, hg, hc⟩ := r3 m _ (endL_get (by rw [HLEN.out]; omega))
      rw [pre_all (by rw [HLEN.out]; omega)] at hc
      rw [HLEN.out] at r1 ⊢
      have HU : Hid (Row w3 (.slice (some ⟨g, o, none⟩) (m + 1) c5) (strs (endL ws ws.length))) := by have := hu2.out; rw [HLEN.out] at this ⊢; exact this
      obtain ⟨S0, hS0⟩ : ∃ s, numB ws.sum = s := ⟨_, rfl⟩
      have HS0 := hid hS0
      rw [hS0] at hc
      have HC := hid hc
      have e1 : IntKind.i64.wrap (((m + 1 : Nat) : Int) - 1) = (m : Int) := by rw [IntWalk.i64_in _ ⟨by omega, by omega⟩]; omega
      have b1 : (0 : Int) ≤ (m : Int) := by omega
      have b2 : (m : Int) < (m : Int) + 1 := by omega
      have c1 : (w3.alloc (.cells #[.slice (some ⟨g, o, none⟩) (m + 1) c5] 55)).cell? ⟨g, o + m, none⟩ = some (.string S0) := (((Below.refl w3.heap.size w3).alloc (Nat.le_refl _) _).cell hg).trans hc
      clear hu hu2 r3 hc hS0
      go_wp2_with fail
      have A5 := hid (((Below.refl w3.heap.size w3).alloc (Nat.le_refl _) (.cells #[.slice (some ⟨g, o, none⟩) (m + 1) c5] 55)).alloc (by simp) (.cells #[.string S0] 23))
      have X7 := hid ((Blk.new w3 #[.slice (some ⟨g, o, none⟩) (m + 1) c5] 55).alloc (.cells #[.string S0] 23))
      have X8 : Hid (Blk ((w3.alloc (.cells #[.slice (some ⟨g, o, none⟩) (m + 1) c5] 55)).alloc (.cells #[.string S0] 23)) (w3.heap.size + 1) #[.string S0] 23) := Blk.made _ _ _ (by simp)
      have hL5 := hid ((HL.out.call y3.out).call A5.out)
      refine (p_draw _ b 90 _ (pkF ws) h256 (enters_of Tryz.func90 (by kernel_rfl) rfl) (p_dec _ _ _ _ ws (by rw [HS0.out]; exact X8.out) X7.out (HU.out.call A5.out) HWS.out hL5.out) hL5.out).mono ?_; rintro e w4 ⟨rfl, hb4⟩
      have z4 := hid (A5.out.trans (hb4.mono A5.out.size))
      have y4 := hid (bnext y3.out z4.out); have k4 := hid (k3.out.call z4.out)
      obtain ⟨X, hX⟩ : ∃ X, pdr (pkF ws) 0 1 b.data.toList = X := ⟨_, rfl⟩
      rw [hX]
      have HX := hid hX
      obtain ⟨d, vv, uu⟩ := X
      simp only [dw3]
      clear hb4 hX c1
      have r0 := k4.out.cell 0
      have r1' := k4.out.cell 1
      have r2' := k4.out.cell 2
      have f0 := k4.out.free 0
      have f1 := k4.out.free 1
      have f2 := k4.out.free 2
      simp at r0 r1' r2'
      go_wp2_with fail
      have s3 := ((k4.out.set 0 (.bool d)).set 1 (.int .i64 (vv : Nat))).set 2 (.int .i64 (uu : Nat))
      have z0 := s3.cell 0
      have z1 := s3.cell 1
      have z2 := s3.cell 2
      simp at z0 z1 z2
      refine bodyPost_ret (v := .tuple #[.agg #[.bool d, .int .i64 (vv : Nat), .int .i64 (uu : Nat)], .int .i64 0]) (by simp [results, Tryz.results53, go_sem, z0, z1, z2]) rfl ⟨by rw [HX.out]; rfl, ?_⟩
      exact ((y4.out.setCell (Nat.le_refl _) _).setCell (Nat.le_refl _) _).setCell (Nat.le_refl _) _
    · have hE : drE l b = y := by unfold drE; rw [hz, hy, h0]; simp
      have hR : dr3 l b = (false, 0, 0) := by unfold dr3; rw [if_neg (by rw [hE]; exact h1)]
      rw [hE, hR]
      simp only [dw3]
      have q3 : (y == 0) = false := by rw [beq_eq_false_iff_ne]; exact h1
      have q4 : (y != 0) = true := by rw [bne_iff_ne]; exact h1
      subst h0
      clear hE hR hz hy hb h1
      go_enter Tryz.func53, Tryz.ntmps53
      go_wp2_with fail
      refine (PC _ (HV.out.call A0.out)).out.mono ?_; rintro e w1 ⟨rfl, hb1⟩
      have y1 := hid (bnext A0.out hb1); have k1 := hid (x0.out.call hb1)
      clear hb1
      go_wp2_with fail
      refine (PD _).out.mono ?_; rintro e w2 ⟨rfl, hb2⟩
      have y2 := hid (bnext y1.out hb2); have k2 := hid (k1.out.call hb2)
      clear hb2
      have r0 := k2.out.cell 0
      have r1' := k2.out.cell 1
      have r2' := k2.out.cell 2
      have f0 := k2.out.free 0
      have f1 := k2.out.free 1
      have f2 := k2.out.free 2
      simp at r0 r1' r2'
      go_wp2_with fail
      have s3 := ((k2.out.set 0 (.bool false)).set 1 (.int .i64 0)).set 2 (.int .i64 0)
      have z0 := s3.cell 0
      have z1 := s3.cell 1
      have z2 := s3.cell 2
      simp at z0 z1 z2
      refine bodyPost_ret (v := .tuple #[.agg #[.bool false, .int .i64 0, .int .i64 0], .int .i64 y]) (by simp [results, Tryz.results53, go_sem, z0, z1, z2]) rfl ⟨rfl, ?_⟩
      exact ((y2.out.setCell (Nat.le_refl _) _).setCell (Nat.le_refl _) _).setCell (Nat.le_refl _) _
  · have hE : drE l b = z := by unfold drE; rw [hz, if_pos h0]
    have hR : dr3 l b = (false, 0, 0) := by unfold dr3; rw [if_neg (by rw [hE]; exact h0)]
    rw [hE, hR]
    simp only [dw3]
    have q3 : (z == 0) = false := by rw [beq_eq_false_iff_ne]; exact h0
    have q4 : (z != 0) = true := by rw [bne_iff_ne]; exact h0
    clear hE hR hz hy hb h0
    go_enter Tryz.func53, Tryz.ntmps53
    go_wp2_with fail
    refine (PC _ (HV.out.call A0.out)).out.mono ?_; rintro e w1 ⟨rfl, hb1⟩
    have y1 := hid (bnext A0.out hb1); have k1 := hid (x0.out.call hb1)
    clear hb1
    have r0 := k1.out.cell 0
    have r1' := k1.out.cell 1
    have r2' := k1.out.cell 2
    have f0 := k1.out.free 0
    have f1 := k1.out.free 1
    have f2 := k1.out.free 2
    simp at r0 r1' r2'
    go_wp2_with fail
    have s3 := ((k1.out.set 0 (.bool false)).set 1 (.int .i64 0)).set 2 (.int .i64 0)
    have z0 := s3.cell 0
    have z1 := s3.cell 1
    have z2 := s3.cell 2
    simp at z0 z1 z2
    refine bodyPost_ret (v := .tuple #[.agg #[.bool false, .int .i64 0, .int .i64 0], .int .i64 z]) (by simp [results, Tryz.results53, go_sem, z0, z1, z2]) rfl ⟨rfl, ?_⟩
    exact ((y1.out.setCell (Nat.le_refl _) _).setCell (Nat.le_refl _) _).setCell (Nat.le_refl _) _
end Go.Proofs.YtpehhgkghgbhiaaGreatDoor
namespace Go.Proofs.YtpehhgkghgbhiaaGreatDoor
open Go.RowKit Go.Shelf
open Go.Lib (decDigits nDigits)
set_option linter.unusedVariables false
set_option linter.unusedSimpArgs false
set_option maxRecDepth 100000 in
set_option maxHeartbeats 1000000 in
theorem n_DivMod1 (w : World) (v u : Value) (a b g : Nat) (s : ByteArray) (ha : IsN .u64 w v a) (hb : IsN .u64 w u b) (hla : (limbs a).length ≤ 1000) (hlb : (limbs b).length ≤ 1000) (h0 : 0 < b) (hd : nDigits (a / b) ≤ 4000) (hg : Blk w g #[.string s] 23) (hL : Lay w) (hLg : LayLt g) :
    Calls Tryz.prog 160 #[v, u, .pointer (some ⟨g, 0, none⟩)] w fun e w' => e = .returned (.tuple #[.string (numB (a / b)), .int .i64 0]) ∧ Blk w' g #[.string (numB (a % b))] 23 ∧ Below g w w' := by
  have HA := hid ha; have HB := hid hb; have HL := hid hL; have HG := hid hg; have HLG := hid hLg
  have LA := hid hla; have LB := hid hlb; have H0 := hid h0
  have LQ := hid (show (limbs (a / b)).length ≤ 1000 from Nat.le_trans (limbs_length_mono (Nat.div_le_self a b)) hla)
  have LR := hid (show (limbs (a % b)).length ≤ 1000 from Nat.le_trans (limbs_length_mono (Nat.mod_le a b)) hla)
  have HR : Hid (resB (a / b) = numB (a / b) ∧ resE (a / b) = 0) := ⟨by rw [resB, if_neg (by omega)], resE_ok (by omega)⟩
  obtain ⟨a1, c1, rfl, _⟩ := ha.openI
  obtain ⟨a2, c2, rfl, _⟩ := hb.openI
  have hz : isZ b = false := by
    cases h : isZ b
    · rfl
    · have := isZ_iff.1 h; omega
  have C0 := hid (l_Zero w _ b hb)
  rw [hz] at C0
  obtain ⟨R0, hR0⟩ : ∃ R, numB (a % b) = R := ⟨_, rfl⟩
  have HR0 := hid hR0
  rw [hR0]
  clear hLg ha hb hL hla hlb hg hz h0 hd hR0
  go_enter Tryz.func160, Tryz.ntmps160
  go_wp2_with fail
  refine C0.out.mono ?_; rintro e w1 ⟨rfl, rfl⟩
  go_wp2_with fail
  refine (l_DivMod _ _ _ a b HA.out HB.out H0.out (by have := LA.out; omega)).mono ?_
  rintro e w1 ⟨⟨v1, v2, rfl, hv1, hv2⟩, hb1⟩
  have y1 := hid hb1; have V1 := hid hv1; have V2 := hid hv2; have G1 := hid (HG.out.call hb1); clear hb1 hv1 hv2
  obtain ⟨a3, c3, rfl, _⟩ := V1.out.openI
  obtain ⟨a4, c4, rfl, _⟩ := V2.out.openI
  go_wp2_with fail
  refine (l_String _ _ _ V2.out (HL.out.call y1.out) (by have := LR.out; omega)).mono ?_
  rintro e w2 ⟨rfl, hb2⟩
  have y2 := hid (bnext y1.out hb2); have G2 := hid (G1.out.call hb2); have V12 := hid (V1.out.call hb2); clear hb2
  rw [show (⟨(decDigits (a % b)).toArray⟩ : ByteArray) = R0 from HR0.out]
  have c0 := G2.out.free 0
  have c1' := G2.out.cell 0
  simp at c1'
  have L0 := HG.out.lt
  have X3 : Hid (Blk (w2.setCell ⟨g, 0, none⟩ (.string R0)) g #[.string R0] 23) := G2.out.set 0 (.string R0)
  have y3 := hid ((y2.out.mono (Nat.le_of_lt L0)).setCell (p := ⟨g, 0, none⟩) (Nat.le_refl _) (.string R0))
  go_wp2_with fail
  have VS := IsN.setQ V12.out G2.out (by intro i k x h; rcases i with _ | i <;> simp at h) 0 (.string R0)
  have LS : Lay (w2.setCell ⟨g, 0, none⟩ (.string R0)) := Lay.below (HL.out.call y2.out) ((Below.refl g _).setCell (p := ⟨g, 0, none⟩) (Nat.le_refl _) _) HLG.out
  refine (n_result _ _ _ VS (by have := LQ.out; omega) LS).mono ?_
  rintro e w3 ⟨rfl, hb3⟩
  rw [HR.out.1, HR.out.2]
  have X4 := hid (X3.out.call hb3)
  have y4 := hid (y3.out.trans (hb3.mono (Nat.le_of_lt X3.out.lt)))
  clear hb3 VS LS c0 c1'
  go_wp2_with fail
  go_ret2
  exact ⟨rfl, X4.out, y4.out⟩
set_option maxRecDepth 100000 in
set_option maxHeartbeats 1000000 in
theorem n_DivMod (w : World) (a b : Nat) (ha : nDigits a ≤ 4000) (hb : nDigits b ≤ 4000) (h0 : 0 < b) (hL : Lay w) :
    Calls Tryz.prog 126 #[.string (numB a), .string (numB b)] w fun e w' => e = .returned (.tuple #[.string (numB (a / b)), .string (numB (a % b)), .int .i64 0]) ∧ Below w.heap.size w w' := by
  have hd : nDigits (a / b) ≤ 4000 := Nat.le_trans (nDigits_mono (Nat.div_le_self a b)) ha
  have ea := errN_numB ha
  have eb := errN_numB hb
  have A0 := hid ((Below.refl w.heap.size w).alloc (Nat.le_refl _) (.cells #[.string ⟨#[]⟩] 23))
  have X0 := hid (Blk.new w #[.string ⟨#[]⟩] 23)
  have P := hid (n_pairK (w.alloc (.cells #[.string ⟨#[]⟩] 23)) (numB a) (numB b) 160 #[.pointer (some ⟨w.heap.size, 0, none⟩)] (numB (a / b)) 0 (fun W w' => Blk w' w.heap.size #[.string (numB (a % b))] 23 ∧ Below w.heap.size W w') ea eb (enters_of Tryz.func160 (by kernel_rfl) rfl)
    (fun W v u hW hv hu => by
      rw [bN_num] at hv hu
      have d1 := (errN_dig ea).2.2
      have d2 := (errN_dig eb).2.2
      rw [bN_num] at d1 d2
      exact n_DivMod1 W v u a b w.heap.size ⟨#[]⟩ hv hu d1 d2 h0 hd (X0.out.call hW) ((hL.call A0.out).call hW) hL.lt))
  obtain ⟨A, hA⟩ : ∃ s, numB a = s := ⟨_, rfl⟩
  obtain ⟨B, hB⟩ : ∃ s, numB b = s := ⟨_, rfl⟩
  obtain ⟨Q, hQ⟩ : ∃ s, numB (a / b) = s := ⟨_, rfl⟩
  obtain ⟨R, hR⟩ : ∃ s, numB (a % b) = s := ⟨_, rfl⟩
  rw [hA, hB, hQ, hR] at P
  rw [hA, hB, hQ, hR]
  clear ha hb h0 hd ea eb hA hB hQ hR hL
  go_enter Tryz.func126, Tryz.ntmps126
  go_wp2_with fail
  refine P.out.mono ?_; rintro e w1 ⟨rfl, W, hW, hg, hb⟩
  have y1 := hid ((A0.out.trans (hW.mono A0.out.size)).trans hb)
  have G1 := hid hg
  have c0 := hg.cell 0
  have c1 := hg.free 0
  simp at c0
  clear hW hg hb
  go_wp2_with fail
  go_region
  go_wp2_with fail
  have s3 : Blk (w1.setCell ⟨w.heap.size, 0, none⟩ (.string R)).drew w.heap.size #[.string R] 23 := (G1.out.set 0 (.string R)).drew
  have z0 := s3.cell 0
  simp at z0
  refine bodyPost_ret (v := .tuple #[.string Q, .string R, .int .i64 0]) (by simp [results, Tryz.results126, go_sem, z0]) rfl ⟨rfl, ?_⟩
  exact (y1.out.setCell (Nat.le_refl _) _).drew
end Go.Proofs.YtpehhgkghgbhiaaGreatDoor
namespace Go.Proofs.YtpehhgkghgbhiaaGreatDoor
open Go.RowKit Go.Shelf
open Go.Lib (decDigits nDigits)
set_option linter.unusedVariables false
theorem s_Itoa (w : World) (n : Nat) (h : n ≤ 9223372036854775807) (hL : Lay w) :
    Calls Tryz.prog 78 #[.int .i64 (n : Nat)] w fun e w' => e = .returned (.string (numB n)) ∧ Below w.heap.size w w' := by
  refine (Tryz.strconv_Itoa (n : Int) (by omega) (by omega) w hL.tab).mono ?_
  rintro e w' ⟨rfl, k, os, rfl⟩
  have en : (⟨(Lib.itoa (n : Int)).toArray⟩ : ByteArray) = numB n := by
    unfold numB Lib.itoa
    rw [if_neg (by omega)]; rfl
  exact ⟨by rw [en], below_grow w k os⟩
end Go.Proofs.YtpehhgkghgbhiaaGreatDoor
namespace Go.Proofs.YtpehhgkghgbhiaaGreatDoor
theorem sgn_mul (p q : Int) : sgn (decide (p < 0) != decide (q < 0)) (p.natAbs * q.natAbs) = p * q := by
  have hp := sgn_of p
  have hq := sgn_of q
  generalize decide (p < 0) = m at *
  generalize decide (q < 0) = n at *
  generalize p.natAbs = a at *
  generalize q.natAbs = b at *
  subst hp hq
  cases m <;> cases n <;> simp [sgn, Int.neg_mul, Int.mul_neg]
theorem qmk_mul (p q : Rat) : qmk (decide (p.num < 0) != decide (q.num < 0)) (p.num.natAbs * q.num.natAbs) (p.den * q.den) = p * q := by
  unfold qmk
  rw [sgn_mul, Rat.mkRat_mul_mkRat _ _ _ _ |>.symm, Rat.mkRat_self, Rat.mkRat_self]
end Go.Proofs.YtpehhgkghgbhiaaGreatDoor
namespace Go.Proofs.YtpehhgkghgbhiaaGreatDoor
open Go.RowKit
open Go.Lib (decDigits nDigits)
set_option linter.unusedVariables false
set_option maxHeartbeats 1000000 in
theorem f_Zero (w : World) : Calls Tryz.prog 144 #[] w fun e w' => RetQ .u64 0 e w' ∧ Below w.heap.size w w' := by
  go_enter Tryz.func144, Tryz.ntmps144
  go_wp2_with fail
  refine (l_Of _ 1 (by omega)).mono ?_; rintro e w1 ⟨⟨v1, rfl, hv1⟩, hb1⟩
  obtain ⟨a3, c3, rfl, _⟩ := hv1.openI
  have HV := hid hv1
  have HB := hid (show Blk w1 w.heap.size #[.bool false, .slice none 0 0, .slice none 0 0] 127 from (Blk.new w _ _).call hb1)
  have d0 := HB.out.cell 0
  have d1 := HB.out.cell 1
  have d2 := HB.out.cell 2
  have e0 := HB.out.free 0
  have e1 := HB.out.free 1
  have e2 := HB.out.free 2
  have HBB := hid hb1
  clear hb1 hv1
  simp at d0 d1 d2
  go_wp2_with fail
  obtain ⟨s1, s2⟩ := set3 HB.out false none a3 0 0 (limbs 1).length c3
  have f0 := s2.cell 0
  have f1 := s2.cell 1
  have f2 := s2.cell 2
  simp at f0 f1 f2
  refine bodyPost_ret (v := .agg #[.bool false, .slice none 0 0, .slice a3 (limbs 1).length c3]) (by simp [results, Tryz.results144, go_sem, f0, f1, f2]) rfl ⟨⟨_, rfl, IsQ.zero_ (s1 _ _ _ (IsN.zero _ _)) (s1 _ _ _ HV.out)⟩, ?_⟩
  exact (((((Below.refl _ _).alloc (Nat.le_refl _) _).trans (HBB.out.mono (by simp))).setCell (Nat.le_refl _) _).setCell (Nat.le_refl _) _).setCell (Nat.le_refl _) _
theorem qmk_red {m : Bool} {n d : Nat} (hn : 0 < n) (hd : 0 < d) {k : IntKind} {w : World} {N D : Value} (hg : Nat.gcd n d = 1) (h1 : IsN k w N n) (h2 : IsN k w D d) : IsQ k w (.agg #[.bool m, N, D]) (qmk m n d) :=
  IsQ.mk' hn hd (by rw [hg, Nat.div_one]; exact h1) (by rw [hg, Nat.div_one]; exact h2)
set_option maxRecDepth 100000 in
set_option maxHeartbeats 2000000 in
theorem f_Make (w : World) (m : Bool) (v u : Value) (n d : Nat) (hn : IsN .u64 w v n) (hd : IsN .u64 w u d) (h0 : 0 < d) (hln : (limbs n).length ≤ 1000000) (hld : (limbs d).length ≤ 1000000) :
    Calls Tryz.prog 102 #[.bool m, v, u] w fun e w' => RetQ .u64 (qmk m n d) e w' ∧ Below w.heap.size w w' := by
  have HN := hid hn; have HD := hid hd
  obtain ⟨a1, c1, rfl, _⟩ := hn.openI
  obtain ⟨a2, c2, rfl, _⟩ := hd.openI
  obtain ⟨k1, hk1⟩ : ∃ k, (limbs n).length = k := ⟨_, rfl⟩
  obtain ⟨k2, hk2⟩ : ∃ k, (limbs d).length = k := ⟨_, rfl⟩
  have LN := hid hln; have LD := hid hld; have H0 := hid h0
  rw [hk1] at HN ⊢
  rw [hk2] at HD ⊢
  have b0 := hid ((Below.refl w.heap.size w).alloc (Nat.le_refl _) (.cells #[.bool false, .slice none 0 0, .slice none 0 0] 127))
  have x0 := hid (Blk.new w #[.bool false, .slice none 0 0, .slice none 0 0] 127)
  have N0 := hid (HN.out.call b0.out); have D0 := hid (HD.out.call b0.out)
  clear hn hd hln hld h0 hk1 hk2
  rcases Nat.eq_zero_or_pos n with rfl | hp
  · have hq := hid (qmk_zero m d)
    rw [hq.out]
    have hz : isZ 0 = true := rfl
    go_enter Tryz.func102, Tryz.ntmps102
    go_wp2_with fail
    refine (l_Zero _ _ _ N0.out).mono ?_; rintro e w1 ⟨rfl, rfl⟩
    rw [hz]
    clear hz
    go_wp2_with fail
    refine (f_Zero _).mono ?_; rintro e w1 ⟨⟨v1, rfl, hv1⟩, hb1⟩
    obtain ⟨M, D, rfl, h2, h3⟩ := hv1.ex
    obtain ⟨a3, c3, rfl, _⟩ := h2.openI
    obtain ⟨a4, c4, rfl, _⟩ := h3.openI
    have hm : decide ((0 : Rat).num < 0) = false := rfl
    rw [hm]
    have HB := hid (x0.out.call hb1)
    have BB := hid (bnext b0.out hb1)
    have d0 := HB.out.cell 0
    have d1 := HB.out.cell 1
    have d2 := HB.out.cell 2
    have e0 := HB.out.free 0
    have e1 := HB.out.free 1
    have e2 := HB.out.free 2
    have H2 := hid h2; have H3 := hid h3
    clear hb1 hv1 h2 h3 hm
    simp at d0 d1 d2
    obtain ⟨l1, hl1⟩ : ∃ k, (limbs (0 : Rat).num.natAbs).length = k := ⟨_, rfl⟩
    obtain ⟨l2, hl2⟩ : ∃ k, (limbs (0 : Rat).den).length = k := ⟨_, rfl⟩
    rw [hl1] at H2 ⊢
    rw [hl2] at H3 ⊢
    clear hl1 hl2
    go_wp2_with fail
    obtain ⟨s1, s2⟩ := set3 HB.out false a3 a4 l1 c3 l2 c4
    have f0 := s2.cell 0
    have f1 := s2.cell 1
    have f2 := s2.cell 2
    simp at f0 f1 f2
    refine bodyPost_ret (v := .agg #[.bool false, .slice a3 l1 c3, .slice a4 l2 c4]) (by simp [results, Tryz.results102, go_sem, f0, f1, f2]) rfl ⟨⟨_, rfl, ⟨_, _, rfl, s1 _ _ _ H2.out, s1 _ _ _ H3.out⟩⟩, ?_⟩
    exact ((BB.out.setCell (Nat.le_refl _) _).setCell (Nat.le_refl _) _).setCell (Nat.le_refl _) _
  · have hz : isZ n = false := by unfold isZ; simpa using (by omega : n ≠ 0)
    have HP := hid hp
    clear hp
    by_cases h1 : d = 1
    · have ho : isO d = true := isO_iff.2 h1
      have HG := hid (show Nat.gcd n d = 1 by rw [h1, Nat.gcd_one_right])
      clear h1
      go_enter Tryz.func102, Tryz.ntmps102
      go_wp2_with fail
      refine (l_Zero _ _ _ N0.out).mono ?_; rintro e w1 ⟨rfl, rfl⟩
      rw [hz]
      clear hz
      go_wp2_with fail
      refine (l_One _ _ _ D0.out).mono ?_; rintro e w1 ⟨rfl, rfl⟩
      rw [ho]
      clear ho
      go_wp2_with fail
      have hB := Blk.new w #[.bool m, .slice a1 k1 c1, .slice a2 k2 c2] 127
      have f0 := hB.cell 0
      have f1 := hB.cell 1
      have f2 := hB.cell 2
      simp at f0 f1 f2
      have b1 := (Below.refl w.heap.size w).alloc (Nat.le_refl _) (.cells #[.bool m, .slice a1 k1 c1, .slice a2 k2 c2] 127)
      refine bodyPost_ret (v := .agg #[.bool m, .slice a1 k1 c1, .slice a2 k2 c2]) (by simp [results, Tryz.results102, go_sem]) rfl ⟨⟨_, rfl, qmk_red HP.out H0.out HG.out (HN.out.call b1) (HD.out.call b1)⟩, b1⟩
    · have ho : isO d = false := by unfold isO; simpa using h1
      obtain ⟨g, hg⟩ : ∃ g, Nat.gcd n d = g := ⟨_, rfl⟩
      have hgp : 0 < g := hg ▸ Nat.gcd_pos_of_pos_left d HP.out
      have HG := hid hg; have HGP := hid hgp
      clear h1 hg hgp
      go_enter Tryz.func102, Tryz.ntmps102
      go_wp2_with fail
      refine (l_Zero _ _ _ N0.out).mono ?_; rintro e w1 ⟨rfl, rfl⟩
      rw [hz]
      clear hz
      go_wp2_with fail
      refine (l_One _ _ _ D0.out).mono ?_; rintro e w1 ⟨rfl, rfl⟩
      rw [ho]
      clear ho
      go_wp2_with fail
      refine (l_Gcd _ _ _ _ _ N0.out D0.out LN.out LD.out).mono ?_
      rintro e w1 ⟨⟨v1, rfl, hv1⟩, hb1⟩
      rw [HG.out] at hv1
      have x1 := hid (x0.out.call hb1)
      have b1 := hid (bnext b0.out hb1)
      have N1 := hid (N0.out.call hb1); have D1 := hid (D0.out.call hb1); have G1 := hid hv1
      clear hb1 hv1
      obtain ⟨a5, c5, rfl, _⟩ := G1.out.openI
      obtain ⟨k5, hk5⟩ : ∃ k, (limbs g).length = k := ⟨_, rfl⟩
      rw [hk5] at G1 ⊢
      clear hk5
      go_wp2_with fail
      refine (l_One _ _ _ G1.out).mono ?_; rintro e w2 ⟨rfl, rfl⟩
      by_cases hg1 : g = 1
      · have ho : isO g = true := isO_iff.2 hg1
        have HG1 := hid (show Nat.gcd n d = 1 by rw [HG.out, hg1])
        rw [ho]
        have d0 := x1.out.cell 0
        have d1 := x1.out.cell 1
        have d2 := x1.out.cell 2
        have e0 := x1.out.free 0
        have e1 := x1.out.free 1
        have e2 := x1.out.free 2
        simp at d0 d1 d2
        clear ho hg1
        go_wp2_with fail
        obtain ⟨s1, s2⟩ := set3 x1.out m a1 a2 k1 c1 k2 c2
        have f0 := s2.cell 0
        have f1 := s2.cell 1
        have f2 := s2.cell 2
        simp at f0 f1 f2
        refine bodyPost_ret (v := .agg #[.bool m, .slice a1 k1 c1, .slice a2 k2 c2]) (by simp [results, Tryz.results102, go_sem, f0, f1, f2]) rfl ⟨⟨_, rfl, qmk_red HP.out H0.out HG1.out (s1 _ _ _ N1.out) (s1 _ _ _ D1.out)⟩, ?_⟩
        exact ((b1.out.setCell (Nat.le_refl _) _).setCell (Nat.le_refl _) _).setCell (Nat.le_refl _) _
      · have ho : isO g = false := by unfold isO; simpa using hg1
        rw [ho]
        clear ho hg1
        go_wp2_with fail
        refine (l_DivMod _ _ _ n g N1.out G1.out HGP.out LN.out).mono ?_
        rintro e w2 ⟨⟨v2, v3, rfl, hv2, -⟩, hb2⟩
        have x2 := hid (x1.out.call hb2); have b2 := hid (bnext b1.out hb2); have D2 := hid (D1.out.call hb2); have G2 := hid (G1.out.call hb2); have V2 := hid hv2
        clear hb2 hv2
        go_wp2_with fail
        refine (l_DivMod _ _ _ d g D2.out G2.out HGP.out LD.out).mono ?_
        rintro e w3 ⟨⟨v4, v5, rfl, hv4, -⟩, hb3⟩
        have x3 := hid (x2.out.call hb3); have b3 := hid (bnext b2.out hb3); have W2 := hid (V2.out.call hb3); have W4 := hid hv4
        clear hb3 hv4
        obtain ⟨a6, c6, rfl, _⟩ := W2.out.openI
        obtain ⟨a7, c7, rfl, _⟩ := W4.out.openI
        have d0 := x3.out.cell 0
        have d1 := x3.out.cell 1
        have d2 := x3.out.cell 2
        have e0 := x3.out.free 0
        have e1 := x3.out.free 1
        have e2 := x3.out.free 2
        simp at d0 d1 d2
        go_wp2_with fail
        obtain ⟨s1, s2⟩ := set3 x3.out m a6 a7 (limbs (n / g)).length c6 (limbs (d / g)).length c7
        have f0 := s2.cell 0
        have f1 := s2.cell 1
        have f2 := s2.cell 2
        simp at f0 f1 f2
        refine bodyPost_ret (v := .agg #[.bool m, .slice a6 (limbs (n / g)).length c6, .slice a7 (limbs (d / g)).length c7]) (by simp [results, Tryz.results102, go_sem, f0, f1, f2]) rfl ⟨⟨_, rfl, IsQ.mk' HP.out H0.out (HG.out ▸ s1 _ _ _ W2.out) (HG.out ▸ s1 _ _ _ W4.out)⟩, ?_⟩
        exact ((b3.out.setCell (Nat.le_refl _) _).setCell (Nat.le_refl _) _).setCell (Nat.le_refl _) _
end Go.Proofs.YtpehhgkghgbhiaaGreatDoor
namespace Go.Proofs.YtpehhgkghgbhiaaGreatDoor
open Go.RowKit
open Go.Lib (decDigits nDigits)
set_option linter.unusedVariables false
set_option linter.unusedSimpArgs false
theorem outB_ov {q : Rat} (h : ovQ q) : outB q = ⟨#[]⟩ := if_pos h
theorem outB_ok {q : Rat} (h : ¬ ovQ q) : outB q = txQ q := if_neg h
theorem outE_ov {q : Rat} (h : ovQ q) : outE q = 5 := if_pos h
theorem outE_ok {q : Rat} (h : ¬ ovQ q) : outE q = 0 := if_neg h
theorem ba_append (a b : ByteArray) : (a ++ b).data.toList = a.data.toList ++ b.data.toList := by simp
theorem txB_ff (n : Nat) : txB false n 1 = numB n := by apply ba_ext; simp [txB, numB]
theorem txB_tf (n : Nat) : txB true n 1 = ⟨#[45]⟩ ++ numB n := by apply ba_ext; rw [ba_append, txB_list, numB_list]; simp
theorem txB_ft (n d : Nat) (h : d ≠ 1) : txB false n d = numB n ++ (⟨#[47]⟩ ++ numB d) := by apply ba_ext; rw [ba_append, ba_append, txB_list, numB_list, numB_list, if_neg h]; simp
theorem txB_tt (n d : Nat) (h : d ≠ 1) : txB true n d = ⟨#[45]⟩ ++ numB n ++ (⟨#[47]⟩ ++ numB d) := by apply ba_ext; rw [ba_append, ba_append, ba_append, txB_list, numB_list, numB_list, if_neg h]; simp
set_option maxRecDepth 100000 in
set_option maxHeartbeats 2000000 in
theorem f_Num (w : World) (v : Value) (q : Rat) (h : IsQ .u64 w v q) (h1 : (limbs q.num.natAbs).length ≤ 1000000) (h2 : (limbs q.den).length ≤ 1000000) (hL : Lay w) :
    Calls Tryz.prog 103 #[v] w fun e w' => e = .returned (.tuple #[.string (outB q), .int .i64 (outE q)]) ∧ Below w.heap.size w w' := by
  obtain ⟨N, D, rfl, hn, hd⟩ := h.ex
  obtain ⟨m, hm⟩ : ∃ m, decide (q.num < 0) = m := ⟨_, rfl⟩
  have HN := hid hn; have HD := hid hd; have HM := hid hm; have HL := hid hL; have L1 := hid h1; have L2 := hid h2
  rw [hm]
  obtain ⟨a1, c1, rfl, _⟩ := hn.openI
  obtain ⟨a2, c2, rfl, _⟩ := hd.openI
  obtain ⟨k1, hk1⟩ : ∃ k, (limbs q.num.natAbs).length = k := ⟨_, rfl⟩
  obtain ⟨k2, hk2⟩ : ∃ k, (limbs q.den).length = k := ⟨_, rfl⟩
  rw [hk1] at HN ⊢
  rw [hk2] at HD ⊢
  have b0 := hid ((Below.refl w.heap.size w).alloc (Nat.le_refl _) (.cells #[.bool m, .slice a1 k1 c1, .slice a2 k2 c2] 127))
  have x0 := hid (Blk.new w #[.bool m, .slice a1 k1 c1, .slice a2 k2 c2] 127)
  have N0 := hid (HN.out.call b0.out); have D0 := hid (HD.out.call b0.out)
  clear hn hd hm h hk1 hk2 hL h1 h2
  by_cases o1 : 4000 < nDigits q.num.natAbs
  · have ho : ovQ q := .inl o1
    rw [outB_ov ho, outE_ov ho]
    have q0 : decide ((4000 : Int) < (nDigits q.num.natAbs : Nat)) = true := by simp; omega
    clear o1 ho
    go_enter Tryz.func103, Tryz.ntmps103
    go_wp2_with fail
    refine (l_Digits _ _ _ N0.out (HL.out.call b0.out) L1.out).mono ?_; rintro e w1 ⟨rfl, hb1⟩
    have b1 := hid (bnext b0.out hb1); clear hb1
    go_wp2_with fail
    go_ret2
    exact ⟨rfl, b1.out⟩
  · have q0 : decide ((4000 : Int) < (nDigits q.num.natAbs : Nat)) = false := by simp; omega
    by_cases o2 : 4000 < nDigits q.den
    · have ho : ovQ q := .inr o2
      rw [outB_ov ho, outE_ov ho]
      have q1 : decide ((4000 : Int) < (nDigits q.den : Nat)) = true := by simp; omega
      clear o1 ho o2
      go_enter Tryz.func103, Tryz.ntmps103
      go_wp2_with fail
      refine (l_Digits _ _ _ N0.out (HL.out.call b0.out) L1.out).mono ?_; rintro e w1 ⟨rfl, hb1⟩
      have b1 := hid (bnext b0.out hb1); have D1 := hid (D0.out.call hb1)
      have x1 := x0.out.call hb1
      have r2 := x1.cell 2
      simp at r2
      clear hb1 x1
      go_wp2_with fail
      refine (l_Digits _ _ _ D1.out (HL.out.call b1.out) L2.out).mono ?_; rintro e w2 ⟨rfl, hb2⟩
      have b2 := hid (bnext b1.out hb2); clear hb2 r2
      go_wp2_with fail
      go_ret2
      exact ⟨rfl, b2.out⟩
    · have ho : ¬ ovQ q := fun h => h.elim o1 o2
      rw [outB_ok ho, outE_ok ho]
      have q1 : decide ((4000 : Int) < (nDigits q.den : Nat)) = false := by simp; omega
      obtain ⟨z, hz⟩ : ∃ z, isO q.den = z := ⟨_, rfl⟩
      have HO := fun W h => hid (l_One W (.slice a2 k2 c2) q.den h)
      rw [hz] at HO
      have HT : Hid (txQ q = txB m q.num.natAbs q.den) := by rw [← HM.out]; rfl
      have HZ := hid hz
      rw [HT.out]
      obtain ⟨T, hT⟩ : ∃ T, txB m q.num.natAbs q.den = T := ⟨_, rfl⟩
      have HTT := hid hT
      rw [hT]
      have HS1 := fun W hv hL => hid (l_String W (.slice a1 k1 c1) q.num.natAbs hv hL L1.out)
      have HS2 := fun W hv hL => hid (l_String W (.slice a2 k2 c2) q.den hv hL L2.out)
      have en : (⟨(Lib.decDigits q.num.natAbs).toArray⟩ : ByteArray) = numB q.num.natAbs := rfl
      have ed : (⟨(Lib.decDigits q.den).toArray⟩ : ByteArray) = numB q.den := rfl
      rw [en] at HS1
      rw [ed] at HS2
      obtain ⟨sn, hsn⟩ : ∃ s, numB q.num.natAbs = s := ⟨_, rfl⟩
      obtain ⟨sd, hsd⟩ : ∃ s, numB q.den = s := ⟨_, rfl⟩
      rw [hsn] at HS1
      rw [hsd] at HS2
      have HSN := hid hsn; have HSD := hid hsd
      have hs1 : sn.size ≤ 4000 := by rw [← hsn, numB_size]; omega
      have hs2 : sd.size ≤ 4000 := by rw [← hsd, numB_size]; omega
      clear o1 ho o2 hT hz en ed hsn hsd
      go_enter Tryz.func103, Tryz.ntmps103
      go_wp2_with fail
      refine (l_Digits _ _ _ N0.out (HL.out.call b0.out) L1.out).mono ?_; rintro e w1 ⟨rfl, hb1⟩
      have b1 := hid (bnext b0.out hb1); have D1 := hid (D0.out.call hb1); have x1 := hid (x0.out.call hb1); have N1 := hid (N0.out.call hb1)
      have r2 := x1.out.cell 2
      simp at r2
      clear hb1
      go_wp2_with fail
      refine (l_Digits _ _ _ D1.out (HL.out.call b1.out) L2.out).mono ?_; rintro e w2 ⟨rfl, hb2⟩
      have b2 := hid (bnext b1.out hb2); have D2 := hid (D1.out.call hb2); have x2 := hid (x1.out.call hb2); have N2 := hid (N1.out.call hb2)
      have r1 := x2.out.cell 1
      simp at r1
      clear hb2 r2
      go_wp2_with fail
      refine (HS1 _ N2.out (HL.out.call b2.out)).out.mono ?_; rintro e w3 ⟨rfl, hb3⟩
      have b3 := hid (bnext b2.out hb3); have D3 := hid (D2.out.call hb3); have x3 := hid (x2.out.call hb3)
      have r0 := x3.out.cell 0
      have r2 := x3.out.cell 2
      simp at r0 r2
      clear hb3 r1 HS1
      cases m
      · go_wp2_with fail
        refine (HO _ D3.out).out.mono ?_; rintro e w4 ⟨rfl, rfl⟩
        cases z
        · go_wp2_with fail
          refine (HS2 _ D3.out (HL.out.call b3.out)).out.mono ?_; rintro e w5 ⟨rfl, hb5⟩
          have b5 := hid (bnext b3.out hb5); clear hb5 r0 r2
          go_wp2_with fail
          go_ret2
          have hTe : T = sn ++ (⟨#[47]⟩ ++ sd) := by rw [← HTT.out, txB_ft _ _ (of_decide_eq_false HZ.out), HSN.out, HSD.out]
          exact ⟨by rw [hTe]; rfl, b5.out⟩
        · go_wp2_with fail
          go_ret2
          have hTe : T = sn := by rw [← HTT.out, isO_iff.1 HZ.out, txB_ff, HSN.out]
          exact ⟨by rw [hTe]; rfl, b3.out⟩
      · go_wp2_with fail
        refine (HO _ D3.out).out.mono ?_; rintro e w4 ⟨rfl, rfl⟩
        cases z
        · go_wp2_with fail
          refine (HS2 _ D3.out (HL.out.call b3.out)).out.mono ?_; rintro e w5 ⟨rfl, hb5⟩
          have b5 := hid (bnext b3.out hb5); clear hb5 r0 r2
          go_wp2_with fail
          go_ret2
          have hTe : T = ⟨#[45]⟩ ++ sn ++ (⟨#[47]⟩ ++ sd) := by rw [← HTT.out, txB_tt _ _ (of_decide_eq_false HZ.out), HSN.out, HSD.out]
          exact ⟨by rw [hTe]; rfl, b5.out⟩
        · go_wp2_with fail
          go_ret2
          have hTe : T = ⟨#[45]⟩ ++ sn := by rw [← HTT.out, isO_iff.1 HZ.out, txB_tf, HSN.out]
          exact ⟨by rw [hTe]; rfl, b3.out⟩
end Go.Proofs.YtpehhgkghgbhiaaGreatDoor
namespace Go.Proofs.YtpehhgkghgbhiaaGreatDoor
open Go.RowKit
open Go.Lib (decDigits nDigits)
set_option linter.unusedVariables false
set_option linter.unusedSimpArgs false
/-- What Make gives back: the text, the error. -/
def mkE (n d : ByteArray) : Int := if iB n = false then 3 else if 4000 < (iD n).size then 5 else if errN d.data.toList ≠ 0 then errN d.data.toList else if d = ⟨#[48]⟩ then 6 else outE (qmk (iM n) (bN (iD n)) (bN d))
def mkB (n d : ByteArray) : ByteArray := if iB n = false then ⟨#[]⟩ else if 4000 < (iD n).size then ⟨#[]⟩ else if errN d.data.toList ≠ 0 then ⟨#[]⟩ else if d = ⟨#[48]⟩ then ⟨#[]⟩ else outB (qmk (iM n) (bN (iD n)) (bN d))
theorem qmk_len {m : Bool} {n d L : Nat} (hd : 0 < d) (h1 : (limbs n).length ≤ L) (h2 : (limbs d).length ≤ L) : (limbs (qmk m n d).num.natAbs).length ≤ L ∧ (limbs (qmk m n d).den).length ≤ L := by
  rw [qmk_num hd, qmk_den hd, sgn_natAbs]
  exact ⟨Nat.le_trans (limbs_length_mono (Nat.div_le_self _ _)) h1, Nat.le_trans (limbs_length_mono (Nat.div_le_self _ _)) h2⟩
set_option maxRecDepth 100000 in
set_option maxHeartbeats 2000000 in
theorem q_Make (w : World) (n d : ByteArray) (hn : n.size ≤ 1000000) (hd : d.size ≤ 1000000) (hL : Lay w) :
    Calls Tryz.prog 58 #[.string n, .string d] w fun e w' => e = .returned (.tuple #[.string (mkB n d), .int .i64 (mkE n d)]) ∧ Below w.heap.size w w' := by
  have HL := hid hL
  have hz := iD_size n
  have HI := fun V => hid (f_Integer V n (by omega))
  have HC := fun V => hid (n_Check V d (by omega))
  have HP1 := fun V h => hid (l_Parse V (iD n) h (by omega))
  have HP2 := fun V h => hid (l_Parse V d h hd)
  cases hb : iB n
  · have e1 : mkB n d = ⟨#[]⟩ := if_pos hb
    have e2 : mkE n d = 3 := if_pos hb
    rw [e1, e2]
    rw [hb] at HI
    clear e1 e2 hb hz HP1 HP2 hn hd hL
    go_enter Tryz.func58, Tryz.ntmps58
    go_wp2_with fail
    refine (HI _).out.mono ?_; rintro e w1 ⟨rfl, hb1⟩
    have b1 := hid hb1; clear hb1
    go_wp2_with fail
    go_ret2
    exact ⟨rfl, b1.out⟩
  · have nb : ¬ iB n = false := by simp [hb]
    by_cases h1 : 4000 < (iD n).size
    · have e1 : mkB n d = ⟨#[]⟩ := by rw [mkB, if_neg nb, if_pos h1]
      have e2 : mkE n d = 5 := by rw [mkE, if_neg nb, if_pos h1]
      have q0 : decide ((4000 : Int) < ((iD n).size : Nat)) = true := by simp; omega
      rw [e1, e2]
      rw [hb] at HI
      clear e1 e2 hb hz HP1 HP2 hn hd hL h1 nb
      go_enter Tryz.func58, Tryz.ntmps58
      go_wp2_with fail
      refine (HI _).out.mono ?_; rintro e w1 ⟨rfl, hb1⟩
      have b1 := hid hb1; clear hb1
      go_wp2_with fail
      go_ret2
      exact ⟨rfl, b1.out⟩
    · have q0 : decide ((4000 : Int) < ((iD n).size : Nat)) = false := by simp; omega
      by_cases h2 : errN d.data.toList = 0
      · have nc : ¬ errN d.data.toList ≠ 0 := fun h => h h2
        by_cases h3 : d = ⟨#[48]⟩
        · have e1 : mkB n d = ⟨#[]⟩ := by rw [mkB, if_neg nb, if_neg h1, if_neg nc, if_pos h3]
          have e2 : mkE n d = 6 := by rw [mkE, if_neg nb, if_neg h1, if_neg nc, if_pos h3]
          rw [e1, e2]
          rw [hb] at HI
          rw [h2] at HC
          clear e1 e2 hb hz HP1 HP2 hn hd hL h1 nb nc h2
          subst h3
          go_enter Tryz.func58, Tryz.ntmps58
          go_wp2_with fail
          refine (HI _).out.mono ?_; rintro e w1 ⟨rfl, hb1⟩
          have b1 := hid hb1; clear hb1
          go_wp2_with fail
          refine (HC _).out.mono ?_; rintro e w2 ⟨rfl, hb2⟩
          have b2 := hid (bnext b1.out hb2); clear hb2
          go_wp2_with fail
          go_ret2
          exact ⟨rfl, b2.out⟩
        · have e1 : mkB n d = outB (qmk (iM n) (bN (iD n)) (bN d)) := by rw [mkB, if_neg nb, if_neg h1, if_neg nc, if_neg h3]
          have e2 : mkE n d = outE (qmk (iM n) (bN (iD n)) (bN d)) := by rw [mkE, if_neg nb, if_neg h1, if_neg nc, if_neg h3]
          rw [e1, e2]
          have d1 := fB_dig (iB_form hb)
          obtain ⟨d2, d3, d4⟩ := errN_dig h2
          have hdp : 0 < bN d := formZ (formB_iff.2 (by obtain ⟨x, hx, _⟩ := errN_zero.1 h2; exact isForm_iff.2 ⟨x, hx⟩)) h3
          have l1 : (limbs (bN (iD n))).length ≤ 1000 := dv_limbs d1 (by rw [list_size]; omega)
          have l2 : (limbs (bN d)).length ≤ 1000 := d4
          have HP1 := fun V => HP1 V d1
          have HP2 := fun V => HP2 V d2
          have HQ := qmk_len (m := iM n) hdp l1 l2
          have HM := fun V v u hv hu => hid (f_Make V (iM n) v u (bN (iD n)) (bN d) hv hu hdp (by omega) (by omega))
          obtain ⟨Q, hQ⟩ : ∃ Q, qmk (iM n) (bN (iD n)) (bN d) = Q := ⟨_, rfl⟩
          rw [hQ] at HQ HM ⊢
          have HN := fun V v hv hL => hid (f_Num V v Q hv (by omega) (by omega) hL)
          rw [hb] at HI
          rw [h2] at HC
          have i1 := ne_lit (l := [48]) h3
          clear e1 e2 hb hz hn hd hL h1 nb nc h2 h3 d1 d2 d3 d4 hdp l1 l2 HQ hQ
          go_enter Tryz.func58, Tryz.ntmps58
          go_wp2_with fail
          refine (HI _).out.mono ?_; rintro e w1 ⟨rfl, hb1⟩
          have b1 := hid hb1; clear hb1
          go_wp2_with fail
          refine (HC _).out.mono ?_; rintro e w2 ⟨rfl, hb2⟩
          have b2 := hid (bnext b1.out hb2); clear hb2
          go_wp2_with fail
          refine (HP1 _).out.mono ?_; rintro e w3 ⟨⟨v3, rfl, hv3⟩, hb3⟩
          have b3 := hid (bnext b2.out hb3); have V3 := hid hv3; clear hb3 hv3
          go_wp2_with fail
          refine (HP2 _).out.mono ?_; rintro e w4 ⟨⟨v4, rfl, hv4⟩, hb4⟩
          have b4 := hid (bnext b3.out hb4); have V4 := hid hv4; have W3 := hid (V3.out.call hb4); clear hb4 hv4
          go_wp2_with fail
          refine (HM _ _ _ W3.out V4.out).out.mono ?_; rintro e w5 ⟨⟨v5, rfl, hv5⟩, hb5⟩
          have b5 := hid (bnext b4.out hb5); have V5 := hid hv5; clear hb5 hv5
          go_wp2_with fail
          refine (HN _ _ V5.out (HL.out.call b5.out)).out.mono ?_; rintro e w6 ⟨rfl, hb6⟩
          have b6 := hid (bnext b5.out hb6); clear hb6
          go_wp2_with fail
          go_ret2
          exact ⟨rfl, b6.out⟩
      · have e1 : mkB n d = ⟨#[]⟩ := by rw [mkB, if_neg nb, if_neg h1, if_pos h2]
        have e2 : mkE n d = errN d.data.toList := by rw [mkE, if_neg nb, if_neg h1, if_pos h2]
        rw [e1, e2]
        rw [hb] at HI
        obtain ⟨x, hx⟩ : ∃ x, errN d.data.toList = x := ⟨_, rfl⟩
        rw [hx] at HC h2 ⊢
        have q1 : (x == 0) = false := by simpa using h2
        have q2 : (x != 0) = true := by simpa using h2
        clear e1 e2 hb hz HP1 HP2 hn hd hL h1 nb h2 hx
        go_enter Tryz.func58, Tryz.ntmps58
        go_wp2_with fail
        refine (HI _).out.mono ?_; rintro e w1 ⟨rfl, hb1⟩
        have b1 := hid hb1; clear hb1
        go_wp2_with fail
        refine (HC _).out.mono ?_; rintro e w2 ⟨rfl, hb2⟩
        have b2 := hid (bnext b1.out hb2); clear hb2
        go_wp2_with fail
        go_ret2
        exact ⟨rfl, b2.out⟩
end Go.Proofs.YtpehhgkghgbhiaaGreatDoor
namespace Go.Proofs.YtpehhgkghgbhiaaGreatDoor
open Go.RowKit
open Go.Lib (decDigits nDigits)
set_option linter.unusedVariables false
set_option linter.unusedSimpArgs false
theorem mk_num {a b : Nat} (ha : nDigits a ≤ 4000) (hb : nDigits b ≤ 4000) (h0 : b ≠ 0) : mkB (numB a) (numB b) = outB (qmk false a b) ∧ mkE (numB a) (numB b) = outE (qmk false a b) := by
  have e1 : iM (numB a) = false := by
    unfold iM Lib.hasPrefix
    rw [numB_list]
    exact minus_dec a
  have e2 : iD (numB a) = numB a := iD_plain e1
  have e3 : iB (numB a) = true := by
    unfold iB
    rw [e1, e2, fB_num]; rfl
  have e4 : errN (numB b).data.toList = 0 := errN_numB hb
  have e5 : ¬ (numB b = ⟨#[48]⟩) := by rw [← numB_zero]; exact numB_ne h0
  have e6 : ¬ 4000 < (iD (numB a)).size := by rw [e2, numB_size]; omega
  constructor
  · rw [mkB, if_neg (by simp [e3]), if_neg e6, if_neg (fun h => h e4), if_neg e5, e1, e2, bN_num, bN_num]
  · rw [mkE, if_neg (by simp [e3]), if_neg e6, if_neg (fun h => h e4), if_neg e5, e1, e2, bN_num, bN_num]
end Go.Proofs.YtpehhgkghgbhiaaGreatDoor
namespace Go.Proofs.YtpehhgkghgbhiaaGreatDoor
open Go.RowKit
set_option linter.unusedVariables false
/-- The cells of the first i indexes. -/
def lwS (ws : List Nat) (t : Nat) : Nat → Nat
  | 0 => 0
  | i + 1 => lwS ws t i + cnt ws t i
theorem cntF_le {ws : List Nat} (t : Nat) {i : Nat} (h : 0 < ws.sum) : cntF ws t i ≤ t := by
  have hp := pre_sum ws i
  have h1 : pre ws i * t ≤ ws.sum * t := Nat.mul_le_mul_right _ hp
  have h2 : pre ws i * t / ws.sum ≤ t := Nat.div_le_of_le_mul h1
  unfold cntF
  by_cases h0 : pre ws i * t % ws.sum = 0
  · rw [if_neg (by simpa using h0)]; exact h2
  · rw [if_pos h0]
    rcases Nat.lt_or_ge (pre ws i * t / ws.sum) t with h3 | h3
    · exact h3
    · exfalso
      have h4 := Nat.div_add_mod (pre ws i * t) ws.sum
      have h5 : ws.sum * t ≤ ws.sum * (pre ws i * t / ws.sum) := Nat.mul_le_mul_left _ h3
      omega
theorem cntF_mono (ws : List Nat) (t i : Nat) (h : 0 < ws.sum) : cntF ws t i ≤ cntF ws t (i + 1) := by
  have hp : pre ws i * t ≤ pre ws (i + 1) * t := Nat.mul_le_mul_right _ (pre_le ws i 1)
  have h1 := Nat.div_le_div_right (c := ws.sum) hp
  unfold cntF
  by_cases h2 : pre ws (i + 1) * t % ws.sum = 0
  · by_cases h3 : pre ws i * t % ws.sum = 0
    · simp only [h2, h3, ne_eq, not_true_eq_false, if_false]; omega
    · simp only [h2, h3, ne_eq, not_true_eq_false, not_false_eq_true, if_false, if_true]
      rcases Nat.lt_or_ge (pre ws i * t / ws.sum) (pre ws (i + 1) * t / ws.sum) with h4 | h4
      · omega
      · exfalso
        have e1 := Nat.div_add_mod (pre ws i * t) ws.sum
        have e2 := Nat.div_add_mod (pre ws (i + 1) * t) ws.sum
        have e3 : ws.sum * (pre ws (i + 1) * t / ws.sum) ≤ ws.sum * (pre ws i * t / ws.sum) := Nat.mul_le_mul_left _ h4
        omega
  · simp only [h2, ne_eq, not_false_eq_true, if_true]
    split <;> omega
theorem cntE_le (ws : List Nat) (t i : Nat) : cntE ws t i ≤ cntF ws t (i + 1) := by unfold cntE cntF; omega
theorem lwS_le (ws : List Nat) (t : Nat) (h : 0 < ws.sum) : ∀ i, lwS ws t i ≤ cntF ws t i
  | 0 => Nat.zero_le _
  | i + 1 => by
    have h1 := lwS_le ws t h i
    have h2 := cntF_mono ws t i h
    have h3 := cntE_le ws t i
    unfold lwS cnt
    omega
/-- What is left of t suffices for the next index. -/
theorem cnt_le (ws : List Nat) (t i : Nat) (h : 0 < ws.sum) : cnt ws t i ≤ t - lwS ws t i := by
  have h1 := lwS_le ws t h (i + 1)
  have h2 := cntF_le t h (i := i + 1)
  unfold lwS at h1
  omega
theorem lwS_fit (ws : List Nat) (t i : Nat) (h : 0 < ws.sum) : lwS ws t i ≤ t := Nat.le_trans (lwS_le ws t h i) (cntF_le t h)
end Go.Proofs.YtpehhgkghgbhiaaGreatDoor
namespace Go.Proofs.YtpehhgkghgbhiaaGreatDoor
open Go.RowKit Go.Shelf
open Go.Lib (decDigits nDigits)
set_option linter.unusedVariables false
set_option linter.unusedSimpArgs false
set_option maxRecDepth 100000 in
set_option maxHeartbeats 1000000 in
theorem pk_less (w : World) (x y : Nat) (hx : nDigits x ≤ 4000) (hy : nDigits y ≤ 4000) (h : y ≤ x) (hL : Lay w) :
    Calls Tryz.prog 127 #[.string (numB x), .string (numB y)] w fun e w' => e = .returned (.string (numB (x - y))) ∧ Below w.heap.size w w' := by
  have h2 := n_Sub w (numB x) (numB y) (numB_sz hx) (numB_sz hy) hL
  have h3 : ¬ 4000 < nDigits (x - y) := by have := nDigits_mono (show x - y ≤ x by omega); omega
  have e1 : pairB (subB (bN (numB x)) (bN (numB y))) (numB x) (numB y) = numB (x - y) := by
    rw [bN_num, bN_num, pairB, if_pos ⟨errN_numB hx, errN_numB hy⟩, subB, if_neg (by omega), resB, if_neg h3]
  have e2 : pairE (subE (bN (numB x)) (bN (numB y))) (numB x) (numB y) = 0 := by
    rw [bN_num, bN_num, pairE, if_pos (errN_numB hx), if_pos (errN_numB hy), subE, if_neg (by omega), resE, if_neg h3]
  rw [e1, e2] at h2
  have P := hid h2
  generalize numB x = A at *
  generalize numB y = B at *
  generalize numB (x - y) = C at *
  clear h2 h3 e1 e2 hx hy h hL
  go_enter Tryz.func127, Tryz.ntmps127
  go_wp2_with fail
  refine P.out.mono ?_; rintro e w1 ⟨rfl, hb1⟩
  go_wp2_with fail
  go_ret
  exact ⟨rfl, hb1⟩
/-- A share of cells, as a text. -/
def shB (m t : Nat) : ByteArray := outB (qmk false m t)
theorem pk_make (w : World) (m t : Nat) (hm : nDigits m ≤ 4000) (ht : nDigits t ≤ 4000) (h0 : t ≠ 0) (hL : Lay w) :
    Calls Tryz.prog 58 #[.string (numB m), .string (numB t)] w fun e w' => e = .returned (.tuple #[.string (shB m t), .int .i64 (outE (qmk false m t))]) ∧ Below w.heap.size w w' := by
  have h := q_Make w (numB m) (numB t) (numB_sz hm) (numB_sz ht) hL
  have e := mk_num hm ht h0
  rwa [e.1, e.2] at h
theorem pk_pow2 (w : World) (n : Nat) (hn : n ≤ 256) (hL : Lay w) :
    Calls Tryz.prog 57 #[.string ⟨#[50]⟩, .int .i64 (n : Nat)] w fun e w' => e = .returned (.tuple #[.string (numB (2 ^ n)), .int .i64 0]) ∧ Below w.heap.size w w' := by
  have e2 : (⟨#[50]⟩ : ByteArray) = numB 2 := by unfold numB; rw [decDigits_small (by omega)]; rfl
  have hd := two_nd (u := n) (by omega)
  have h := n_Pow_ok w (numB 2) n (errN_numB (by rw [Go.Lib.nDigits_small (by omega)]; omega)) (by omega) (by rw [bN_num]; omega) hL
  rw [bN_num] at h
  rw [e2]
  exact h
end Go.Proofs.YtpehhgkghgbhiaaGreatDoor
namespace Go.Proofs.YtpehhgkghgbhiaaGreatDoor
open Go.RowKit Go.Shelf
open Go.Lib (decDigits nDigits)
set_option linter.unusedVariables false
set_option linter.unusedSimpArgs false
/-- A slice of masses (a key, a probability). -/
structure MRow (w : World) (v : Value) (L : List (ByteArray × ByteArray)) : Prop where
  ex : ∃ a c, v = .slice a L.length c ∧ L.length ≤ c ∧ c ≤ 9223372036854775807 ∧ ∀ (i : Nat) (x : ByteArray × ByteArray), L[i]? = some x → ∃ g o, a = some ⟨g, o, none⟩ ∧ g < w.heap.size ∧ w.cell? ⟨g, o + 2 * i, none⟩ = some (.string x.1) ∧ w.cell? ⟨g, o + 2 * i + 1, none⟩ = some (.string x.2)
theorem MRow.call {w w' : World} {v : Value} {L : List (ByteArray × ByteArray)} (h : MRow w v L) (hb : Below w.heap.size w w') : MRow w' v L := by
  obtain ⟨a, c, rfl, h1, h2, h3⟩ := h.ex
  refine ⟨a, c, rfl, h1, h2, fun i x hx => ?_⟩
  obtain ⟨g, o, rfl, hg, k1, k2⟩ := h3 i x hx
  exact ⟨g, o, rfl, Nat.lt_of_lt_of_le hg hb.size, (hb.cell (p := ⟨g, o + 2 * i, none⟩) hg).trans k1, (hb.cell (p := ⟨g, o + 2 * i + 1, none⟩) hg).trans k2⟩
theorem MRow.nil (w : World) : MRow w (.slice none 0 0) [] := ⟨none, 0, rfl, Nat.le_refl _, by omega, fun i x h => by simp at h⟩
theorem ne_tl {x y : ByteArray} (h : ¬ x = y) : ¬ x.toList = y.toList := fun e => h (by
  rw [Lib.toList_data, Lib.toList_data] at e
  exact ba_ext e)
set_option maxRecDepth 100000 in
set_option maxHeartbeats 2000000 in
theorem k_SameM (w : World) (v u : Value) (L M : List (ByteArray × ByteArray)) (hv : MRow w v L) (hu : MRow w u M) :
    Calls Tryz.prog 17 #[v, u] w fun e w' => e = .returned (.bool (decide (L = M))) ∧ Below w.heap.size w w' := by
  obtain ⟨a, c, rfl, h1, h2, h3⟩ := hv.ex
  obtain ⟨a', c', rfl, h1', h2', h3'⟩ := hu.ex
  obtain ⟨n, hn⟩ : ∃ n, L.length = n := ⟨_, rfl⟩
  obtain ⟨m, hm⟩ : ∃ n, M.length = n := ⟨_, rfl⟩
  rw [hn] at h1 ⊢
  rw [hm] at h1' ⊢
  have H3 := hid h3; have H3' := hid h3'; have HN := hid hn; have HM := hid hm
  clear hv hu h3 h3'
  by_cases hnm : n = m
  · subst hnm
    have q0 : ((n : Int) != (n : Int)) = false := by simp
    clear hn hm
    go_enter Tryz.func17, Tryz.ntmps17
    go_wp2_with fail
    go_loopw [5] (fun ii wr => ∃ i : Nat, ii = .int .i64 (i : Nat) ∧ i ≤ n ∧ Hid (∀ j, j < i → L[j]? = M[j]?) ∧ Hid (Below w.heap.size w wr)) (fun ii wr => n - (intOf ii).toNat)
    case atStart => exact ⟨0, rfl, Nat.zero_le _, fun j hj => absurd hj (by omega), Below.refl _ _⟩
    case round =>
      obtain ⟨i, rfl, hi, hI, hB⟩ := hrel
      by_cases hlt : i < n
      · obtain ⟨x, hx⟩ : ∃ x, L[i]? = some x := ⟨_, List.getElem?_eq_getElem (by rw [HN.out]; exact hlt)⟩
        obtain ⟨y, hy⟩ : ∃ x, M[i]? = some x := ⟨_, List.getElem?_eq_getElem (by rw [HM.out]; exact hlt)⟩
        obtain ⟨g, o, rfl, hg, k1, k2⟩ := H3.out i x hx
        obtain ⟨g', o', rfl, hg', k1', k2'⟩ := H3'.out i y hy
        obtain ⟨x1, x2⟩ := x
        obtain ⟨y1, y2⟩ := y
        have HX := hid hx; have HY := hid hy
        have m1 := (hB.out.cell (p := ⟨g, o + 2 * i, none⟩) hg).trans k1
        have m2 := (hB.out.cell (p := ⟨g, o + 2 * i + 1, none⟩) hg).trans k2
        have m3 := (hB.out.cell (p := ⟨g', o' + 2 * i, none⟩) hg').trans k1'
        have m4 := (hB.out.cell (p := ⟨g', o' + 2 * i + 1, none⟩) hg').trans k2'
        dsimp only at m1 m2 m3 m4
        rw [Nat.mul_comm 2 i] at m1 m2 m3 m4
        have b1 : (0 : Int) ≤ (i : Int) := by omega
        have b2 : (i : Int) < (n : Int) := by omega
        have wi : IntKind.i64.wrap ((i : Int) + 1) = (i : Int) + 1 := by rw [IntWalk.i64_in _ ⟨by omega, by omega⟩]
        clear k1 k2 k1' k2' hx hy hg hg'
        by_cases he1 : x1 = y1
        · subst he1
          by_cases he2 : x2 = y2
          · subst he2
            go_wp2_with fail
            refine held_plain [0, 1, 2, 3, 4, 5, 6, 7, 8] 0 (fun w' => w'.cell? ⟨g, o + i * 2, none⟩ = some (.string x1) ∧ w'.cell? ⟨g, o + i * 2 + 1, none⟩ = some (.string x2) ∧ w'.cell? ⟨g', o' + i * 2, none⟩ = some (.string x1) ∧ w'.cell? ⟨g', o' + i * 2 + 1, none⟩ = some (.string x2)) (by kernel_rfl) (by kernel_rfl) (by kernel_rfl) (by kernel_rfl) ⟨m1, m2, m3, m4⟩ ?_
            iterate 9
              refine ⟨_, rfl, ?_⟩
              apply Exists.intro
              refine ⟨.inl ⟨by rfl, ?_⟩, ?_⟩
              · (intro W' hW'; obtain ⟨q1, q2, q3, q4⟩ := hW'; go_simp; try (with_reducible rfl))
              (dsimp only [Act.put]; try simp only [List.setIfInBounds_toArray, List.set_cons_zero, List.set_cons_succ])
            refine wpAnyH_done (by kernel_rfl) ?_ _
            simp only [Only]
            go_wp2_with fail
            go_roundw
            case rel => exact ⟨i + 1, rfl, by omega, fun j hj => by
              rcases Nat.lt_or_ge j i with h | h
              · exact hI.out j h
              · obtain rfl : j = i := by omega
                rw [HX.out, HY.out], hB.out.drew⟩
            case measure => simp [intOf] <;> omega
          · have n2 := ne_tl he2
            have hne : decide (L = M) = false := by
              rw [decide_eq_false_iff_not]; rintro rfl
              have := HX.out.symm.trans HY.out
              simp only [Option.some.injEq, Prod.mk.injEq] at this
              exact he2 this.2
            have HNE := hid hne
            clear hne he2
            go_wp2_with fail
            refine held_plain [0, 1, 2, 3, 4, 5, 6, 7, 8] 0 (fun w' => w'.cell? ⟨g, o + i * 2, none⟩ = some (.string x1) ∧ w'.cell? ⟨g, o + i * 2 + 1, none⟩ = some (.string x2) ∧ w'.cell? ⟨g', o' + i * 2, none⟩ = some (.string x1) ∧ w'.cell? ⟨g', o' + i * 2 + 1, none⟩ = some (.string y2)) (by kernel_rfl) (by kernel_rfl) (by kernel_rfl) (by kernel_rfl) ⟨m1, m2, m3, m4⟩ ?_
            iterate 9
              refine ⟨_, rfl, ?_⟩
              apply Exists.intro
              refine ⟨.inl ⟨by rfl, ?_⟩, ?_⟩
              · (intro W' hW'; obtain ⟨q1, q2, q3, q4⟩ := hW'; go_simp; try (with_reducible rfl))
              (dsimp only [Act.put]; try simp only [List.setIfInBounds_toArray, List.set_cons_zero, List.set_cons_succ])
            refine wpAnyH_done (by kernel_rfl) ?_ _
            simp only [Only]
            go_wp2_with fail
            go_ret
            exact ⟨by rw [HNE.out]; rfl, hB.out.drew⟩
        · have n1 := ne_tl he1
          have hne : decide (L = M) = false := by
            rw [decide_eq_false_iff_not]; rintro rfl
            have := HX.out.symm.trans HY.out
            simp only [Option.some.injEq, Prod.mk.injEq] at this
            exact he1 this.1
          have HNE := hid hne
          clear hne he1
          go_wp2_with fail
          refine held_plain [0, 1, 2, 3, 4, 5, 6, 7, 8] 0 (fun w' => w'.cell? ⟨g, o + i * 2, none⟩ = some (.string x1) ∧ w'.cell? ⟨g, o + i * 2 + 1, none⟩ = some (.string x2) ∧ w'.cell? ⟨g', o' + i * 2, none⟩ = some (.string y1) ∧ w'.cell? ⟨g', o' + i * 2 + 1, none⟩ = some (.string y2)) (by kernel_rfl) (by kernel_rfl) (by kernel_rfl) (by kernel_rfl) ⟨m1, m2, m3, m4⟩ ?_
          iterate 9
            refine ⟨_, rfl, ?_⟩
            apply Exists.intro
            refine ⟨.inl ⟨by rfl, ?_⟩, ?_⟩
            · (intro W' hW'; obtain ⟨q1, q2, q3, q4⟩ := hW'; go_simp; try (with_reducible rfl))
            (dsimp only [Act.put]; try simp only [List.setIfInBounds_toArray, List.set_cons_zero, List.set_cons_succ])
          refine wpAnyH_done (by kernel_rfl) ?_ _
          simp only [Only]
          go_wp2_with fail
          go_ret
          exact ⟨by rw [HNE.out]; rfl, hB.out.drew⟩
      · obtain rfl : i = n := by omega
        have hE : L = M := by
          apply List.ext_getElem?
          intro j
          by_cases hj : j < i
          · exact hI.out j hj
          · rw [List.getElem?_eq_none (by rw [HN.out]; omega), List.getElem?_eq_none (by rw [HM.out]; omega)]
        have HE := hid hE
        have q1 : decide ((i : Int) < (i : Int)) = false := by simp
        clear hlt hE
        go_wp2_with fail
        go_ret
        exact ⟨by rw [decide_eq_true HE.out]; rfl, hB.out⟩
  · have q0 : ((n : Int) != (m : Int)) = true := by rw [bne_iff_ne]; omega
    have hne : decide (L = M) = false := by
      rw [decide_eq_false_iff_not]; rintro rfl; exact hnm (hn.symm.trans hm)
    have HNE := hid hne
    clear hne hnm hn hm
    go_enter Tryz.func17, Tryz.ntmps17
    go_wp2_with fail
    go_ret
    exact ⟨by rw [HNE.out]; rfl, Below.refl _ _⟩
end Go.Proofs.YtpehhgkghgbhiaaGreatDoor
