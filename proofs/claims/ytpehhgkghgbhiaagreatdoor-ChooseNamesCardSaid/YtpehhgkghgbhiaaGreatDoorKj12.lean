/- Texts that the proof rests on, merged: Cm2, Ck0, Ck1, Ck2, Kt, Pm1, Cm3, Cn0, Lits, Cn1. -/
import Derived.Test.YtpehhgkghgbhiaaGreatDoorKj11
import Derived.Test.YtpehhgkghgbhiaaGreatDoorProg
import Derived.Lib.SmallJoins
import Derived.WalkLawsBesides
import Derived.Deep.DeepCutAuto
import Derived.Sort.Walk0
import Derived.Lib.AppendStr
import Derived.Lib.JoinLaws
import Derived.Deep.OwnRows
import Derived.IntWalk
namespace Go.Proofs.YtpehhgkghgbhiaaGreatDoor
open Go.RowKit Go.Shelf
open Go.Lib (decDigits nDigits)
set_option linter.unusedVariables false
theorem val_ex {ws : List Nat} {i : Nat} (hp : ∀ x ∈ ws, 0 < x) (hi : i < ws.length) : valM (sortM (exL ws ws.sum ws.length)) (numB i) = shB (ws.getD i 0) ws.sum := by
  refine valM_some (sortM_mem.2 ?_) (sortM_nd (reads_exD (H := Unit) ws ws.sum ws.length).nd)
  refine exL_mem.2 ⟨i, hi, ?_, rfl⟩
  rw [List.getD_eq_getElem?_getD, List.getElem?_eq_getElem hi]
  have := hp _ (List.getElem_mem hi)
  show ws[i] ≠ 0
  omega
theorem exL_all {ws : List Nat} {S : Nat} (hp : ∀ x ∈ ws, 0 < x) : ∀ N, N ≤ ws.length → (exL ws S N).length = N
  | 0, _ => rfl
  | N + 1, h => by
    have ih := exL_all (S := S) hp N (by omega)
    rw [exL, if_pos, List.length_append, ih]
    · rfl
    · rw [List.getD_eq_getElem?_getD, List.getElem?_eq_getElem (by omega)]
      have := hp _ (List.getElem_mem (show N < ws.length by omega))
      show ws[N] ≠ 0
      omega
/-- The exact distribution of good weights. -/
theorem ex_good {us : List Int} {s : ByteArray} {B : Int} (h : cwE us s B = 0) : exR (cwR us s B) = sortM (exL (cwV us s B) (cwV us s B).sum us.length) ∧ (exR (cwR us s B)).length = us.length ∧
    (∀ i u, us[i]? = some u → valM (exR (cwR us s B)) (numB i) = shB (cwN (vQ s).num.natAbs (vQ s).den B.toNat u) (cwV us s B).sum) ∧ nDigits (cwV us s B).sum ≤ 402 ∧ (cwV us s B).sum ≠ 0 := by
  obtain ⟨ok, -⟩ := cw_good h
  have e : exR (cwR us s B) = sortM (exL (cwV us s B) (cwV us s B).sum us.length) := by
    rw [cwR, if_pos h, exR, if_pos (wsE_cw ok), cwV_bN, cwT_len]
  have hp := cwV_pos ok
  have hl := cwV_len us s B
  refine ⟨e, ?_, fun i u hu => ?_, nd_sum (cwV_dig ok) (by rw [hl]; have := ok.hi; omega), ?_⟩
  · rw [e, sortM_length, exL_all hp _ (by rw [hl]; exact Nat.le_refl _)]
  · rw [e]
    have hi := (List.getElem?_eq_some_iff.1 hu).1
    have := val_ex hp (show i < (cwV us s B).length by rw [hl]; exact hi)
    rw [hl] at this
    rw [this, cwV_get hu]
  · have hw := wsE_pos (wsE_cw ok)
    rw [cwV_bN] at hw
    omega
end Go.Proofs.YtpehhgkghgbhiaaGreatDoor
namespace Go.Proofs.YtpehhgkghgbhiaaGreatDoor
open Go.RowKit Go.Maps
open Go.Lib (decDigits nDigits)
set_option linter.unusedVariables false
/-- How many keys are found behind so many steps. -/
def fndN (ws : List Nat) (t N i : Nat) : Nat := if i ≤ N then (lawL ws t i).length else (lawP ws t N).length
theorem fndN_zero (ws : List Nat) (t N : Nat) : fndN ws t N 0 = 0 := by rw [fndN, if_pos (Nat.zero_le _)]; rfl
theorem fndN_skip {ws : List Nat} {t N i : Nat} (h : i < N) (h0 : cnt ws t i = 0) : fndN ws t N (i + 1) = fndN ws t N i := by
  rw [fndN, fndN, if_pos (by omega), if_pos (by omega), (lawL_step ws t i).1 h0]
theorem fndN_next {ws : List Nat} {t N i : Nat} (h : i < N) (h0 : cnt ws t i ≠ 0) : fndN ws t N (i + 1) = fndN ws t N i + 1 := by
  rw [fndN, fndN, if_pos (by omega), if_pos (by omega), (lawL_step ws t i).2 h0, List.length_append]; rfl
theorem fndN_none {ws : List Nat} {t N : Nat} (h0 : t - lwS ws t N = 0) : fndN ws t N (N + 1) = fndN ws t N N := by
  rw [fndN, fndN, if_neg (by omega), if_pos (Nat.le_refl _), lawP, if_pos h0]
theorem fndN_late {ws : List Nat} {t N : Nat} (h0 : t - lwS ws t N ≠ 0) : fndN ws t N (N + 1) = fndN ws t N N + 1 := by
  rw [fndN, fndN, if_neg (by omega), if_pos (Nat.le_refl _), (lawP_last h0).2]
theorem fndN_end (ws : List Nat) (t N : Nat) : fndN ws t N (N + 1) = (sortM (lawP ws t N)).length := by
  rw [fndN, if_neg (by omega), sortM_length]
theorem fndN_le {ws : List Nat} {t N i : Nat} : fndN ws t N i ≤ N + 1 := by
  have h1 := lawL_length ws t i
  have h2 := lawL_length ws t N
  unfold fndN
  split
  · omega
  · unfold lawP
    split
    · omega
    · rw [List.length_append]
      have : ∀ p : ByteArray × ByteArray, [p].length = 1 := fun _ => rfl
      rw [this]; omega
/-- The late ones of positive weights. -/
theorem late_pos {ws : List Nat} {m : Nat} (hS : 0 < ws.sum) : 2 ^ m - lwS ws (2 ^ m) ws.length ≤ ws.length - 1 := by
  have h1 := (late_few (ws := ws) (2 ^ m) hS).2
  have h2 := nzW_le ws ws.length
  omega
theorem ck_ok {us : List Int} {s : ByteArray} {B : Int} {m : Nat} (he : cwE us s B = 0) (hm : m ≤ 8) :
    clE us s B (m : Nat) = 0 ∧ lawR (cwR us s B) (m : Nat) = sortM (lawP (cwV us s B) (2 ^ m) us.length) ∧ 0 < (cwV us s B).sum ∧ 1 ≤ us.length ∧ us.length ≤ 64 ∧
    (∀ x ∈ allW m, cdE us s B (tb x) = 0 ∧ dr3 (cwR us s B) (tb x) = pdr (pkF (cwV us s B)) 0 1 x) := by
  have hW : wsE (cwT us s B) = 0 := wsE_cw (cw_good he).1
  obtain ⟨o1, o2, -, -, -, -⟩ := cwE_ok he
  have hE : lawE (cwT us s B) (m : Nat) = 0 := by rw [lawE, if_neg (by rw [hW]; simp), if_neg (by omega)]
  have hS := wsE_pos hW
  rw [cwV_bN] at hS
  refine ⟨by rw [clE, if_neg (by simpa using he)]; exact hE, ?_, hS, o1, o2, fun x hx => ?_⟩
  · rw [cwR, if_pos he, lawR, if_pos hE, cwV_bN, Int.toNat_natCast, cwT_len]
  · have hd : drE (cwT us s B) (tb x) = 0 := by rw [drE, if_neg (by rw [hW]; simp)]; exact bit_words hx (by omega)
    refine ⟨by rw [cdE, if_neg (by simpa using he)]; exact hd, ?_⟩
    rw [cwR, if_pos he, dr3, if_pos hd, cwV_bN, tb_list]
end Go.Proofs.YtpehhgkghgbhiaaGreatDoor
namespace Go.Proofs.YtpehhgkghgbhiaaGreatDoor
open Go.RowKit Go.Shelf
open Go.Lib (decDigits nDigits)
set_option linter.unusedVariables false
set_option linter.unusedSimpArgs false
set_option maxRecDepth 100000 in
set_option maxHeartbeats 4000000 in
theorem ck_over (w : World) (v : Value) (us : List Int) (s : ByteArray) (B n : Int) (hv : Row w v (zs us)) (hs : s.size ≤ 9223372036854775807) (hL : Lay w)
    (h : 70 < us.length ∨ 20 < s.size ∨ 20 < B ∨ n < 0 ∨ 8 < n) :
    Calls Tryz.prog 5 #[v, .string s, .int .i64 B, .int .i64 n] w fun e w' => e = .returned (.bool true) ∧ Below w.heap.size w w' := by
  have HLV := hid (w_lives w hL)
  obtain ⟨a, c, rfl, c1, c2, -⟩ := hv.openZ
  obtain ⟨N, hN⟩ : ∃ N, us.length = N := ⟨_, rfl⟩
  rw [hN] at c1 h ⊢
  obtain ⟨b1, k1⟩ : ∃ b, decide ((70 : Int) < (N : Int)) = b := ⟨_, rfl⟩
  obtain ⟨b2, k2⟩ : ∃ b, decide ((20 : Int) < (s.size : Int)) = b := ⟨_, rfl⟩
  obtain ⟨b3, k3⟩ : ∃ b, decide (20 < B) = b := ⟨_, rfl⟩
  obtain ⟨b4, k4⟩ : ∃ b, decide (n < 0) = b := ⟨_, rfl⟩
  obtain ⟨b5, k5⟩ : ∃ b, decide (8 < n) = b := ⟨_, rfl⟩
  have k6 : (b1 || b2 || b3 || b4 || b5) = true := by
    rw [← k1, ← k2, ← k3, ← k4, ← k5]
    simp only [Bool.or_eq_true, decide_eq_true_eq]
    omega
  clear hv hL hN h
  cases b1
  · cases b2
    · cases b3
      · cases b4
        · obtain rfl : b5 = true := by simpa using k6
          clear k6
          go_enter Tryz.func5, Tryz.ntmps5
          go_wp2_with fail
          refine HLV.out.mono ?_; rintro e w1 ⟨rfl, hb1⟩
          have y1 := hid hb1; clear hb1
          go_wp2_with fail
          go_ret
          exact ⟨rfl, y1.out⟩
        · clear k5 k6
          go_enter Tryz.func5, Tryz.ntmps5
          go_wp2_with fail
          refine HLV.out.mono ?_; rintro e w1 ⟨rfl, hb1⟩
          have y1 := hid hb1; clear hb1
          go_wp2_with fail
          go_ret
          exact ⟨rfl, y1.out⟩
      · clear k4 k5 k6
        go_enter Tryz.func5, Tryz.ntmps5
        go_wp2_with fail
        refine HLV.out.mono ?_; rintro e w1 ⟨rfl, hb1⟩
        have y1 := hid hb1; clear hb1
        go_wp2_with fail
        go_ret
        exact ⟨rfl, y1.out⟩
    · clear k3 k4 k5 k6
      go_enter Tryz.func5, Tryz.ntmps5
      go_wp2_with fail
      refine HLV.out.mono ?_; rintro e w1 ⟨rfl, hb1⟩
      have y1 := hid hb1; clear hb1
      go_wp2_with fail
      go_ret
      exact ⟨rfl, y1.out⟩
  · clear k2 k3 k4 k5 k6
    go_enter Tryz.func5, Tryz.ntmps5
    go_wp2_with fail
    refine HLV.out.mono ?_; rintro e w1 ⟨rfl, hb1⟩
    have y1 := hid hb1; clear hb1
    go_wp2_with fail
    go_ret
    exact ⟨rfl, y1.out⟩
theorem cl_bad {us : List Int} {s : ByteArray} {B n : Int} (h : cwE us s B ≠ 0) : clE us s B n = cwE us s B ∧ lawR (cwR us s B) n = [] := by
  refine ⟨if_pos h, ?_⟩
  rw [cwR, if_neg h]
  exact lawR_nil n
set_option maxRecDepth 100000 in
set_option maxHeartbeats 4000000 in
theorem ck_err (w : World) (v : Value) (us : List Int) (s : ByteArray) (B : Int) (m : Nat) (hv : Row w v (zs us)) (hL : Lay w)
    (h1 : us.length ≤ 70) (h3 : s.size ≤ 20) (h4 : B ≤ 20) (hm : m ≤ 8) (he : cwE us s B ≠ 0) :
    Calls Tryz.prog 5 #[v, .string s, .int .i64 B, .int .i64 (m : Nat)] w fun e w' => e = .returned (.bool true) ∧ Below w.heap.size w w' := by
  have HLV := hid (w_lives w hL)
  have PE := fun V hV hLV => hid (ch_Law V v us s B (m : Nat) hV (by omega) hLV)
  have HV := hid hv; have HL := hid hL
  rw [(cl_bad he).1, (cl_bad he).2] at PE
  obtain ⟨a, c, rfl, c1, c2, -⟩ := hv.openZ
  obtain ⟨N, hN⟩ : ∃ N, us.length = N := ⟨_, rfl⟩
  obtain ⟨z, hz⟩ : ∃ z, cwE us s B = z := ⟨_, rfl⟩
  rw [hz] at PE he
  rw [hN] at c1 h1 HV PE ⊢
  have k1 : decide ((70 : Int) < (N : Int)) = false := by simp; omega
  have k2 : decide ((20 : Int) < (s.size : Int)) = false := by simp; omega
  have k3 : decide (20 < B) = false := by simp; omega
  have k4 : decide ((m : Int) < 0) = false := by simp
  have k5 : decide (8 < (m : Int)) = false := by simp; omega
  have q0 : (z != 0) = true := by simpa using he
  clear hv hL hN hz h3 he hm
  go_enter Tryz.func5, Tryz.ntmps5
  go_wp2_with fail
  refine HLV.out.mono ?_; rintro e w1 ⟨rfl, hb1⟩
  have y1 := hid hb1; clear hb1
  go_wp2_with fail
  refine (PE _ (HV.out.call y1.out) (HL.out.call y1.out)).out.mono ?_; rintro e w2 ⟨⟨x1, rfl, hx1⟩, hb2⟩
  obtain ⟨a1, d1, rfl⟩ := hx1.openM
  have y2 := hid (bnext y1.out hb2)
  clear hb2 hx1
  go_wp2_with fail
  go_ret
  exact ⟨rfl, y2.out⟩
end Go.Proofs.YtpehhgkghgbhiaaGreatDoor
namespace Go.Proofs.YtpehhgkghgbhiaaGreatDoor
open Go.RowKit Go.Shelf
open Go.Lib (decDigits nDigits)
set_option linter.unusedVariables false
set_option linter.unusedSimpArgs false
set_option maxRecDepth 100000 in
set_option maxHeartbeats 8000000 in
theorem ck_main (w : World) (v : Value) (us : List Int) (s : ByteArray) (B : Int) (m : Nat) (hv : Row w v (zs us)) (hL : Lay w)
    (h1 : us.length ≤ 70) (h3 : s.size ≤ 20) (h4 : B ≤ 20) (hm : m ≤ 8) (he : cwE us s B = 0) :
    Calls Tryz.prog 5 #[v, .string s, .int .i64 B, .int .i64 (m : Nat)] w fun e w' => e = .returned (.bool true) ∧ Below w.heap.size w w' := by
  have HLV := hid (w_lives w hL)
  obtain ⟨E1, E2, hS, o1, o2, HED0⟩ := ck_ok he hm
  have PE := fun V v hV hLV => hid (ch_Law V v us s B (m : Nat) hV (by omega) hLV)
  rw [E1, E2] at PE
  have P3 := fun (x : List UInt8) (hx : x ∈ allW m) V v hV hLV => hid (ch_Draw V v us s B (tb x) hV (by omega) (by rw [tb_size, allW_len hx]; omega) hLV)
  have HED := hid HED0
  have HV := hid hv; have HL := hid hL
  have hlen := cwV_len us s B
  obtain ⟨a, c, rfl, c1, c2, -⟩ := hv.openZ
  obtain ⟨ws, hws⟩ : ∃ ws, cwV us s B = ws := ⟨_, rfl⟩
  obtain ⟨N, hN⟩ : ∃ N, us.length = N := ⟨_, rfl⟩
  rw [hws] at PE HED hS hlen
  rw [hN] at PE HV c1 o1 o2 h1 hlen ⊢
  have HWS := hid hlen; have HPOS := hid hS
  have PA := fun V => hid (r3_All V m (by omega))
  have k1 : decide ((70 : Int) < (N : Int)) = false := by simp; omega
  have k2 : decide ((20 : Int) < (s.size : Int)) = false := by simp; omega
  have k3 : decide (20 < B) = false := by simp; omega
  have k4 : decide ((m : Int) < 0) = false := by simp
  have k5 : decide (8 < (m : Int)) = false := by simp; omega
  have hp : 2 ^ m ≤ 256 := Nat.le_trans (Nat.pow_le_pow_right (by omega) hm) (by decide)
  have hp0 := two_ne m
  have hp1 : 0 < 2 ^ m := Nat.pos_of_ne_zero hp0
  obtain ⟨k, hk⟩ : ∃ k, N = k + 1 := ⟨N - 1, by omega⟩
  have PLT := fun V hLV => hid (ch_Late V ((k + 1 : Nat) : Int) (m : Nat) hLV)
  rw [(lt_at (k := k) (by omega) (by omega : m ≤ 256)).1, (lt_at (k := k) (by omega) (by omega : m ≤ 256)).2, ← hk] at PLT
  have BND := hid fun L hL hL2 => lt_bound (L := L) (k := k) (m := m) (by omega) (by omega) hL hL2
  have LPS := hid (late_pos (ws := ws) (m := m) hS)
  have LSZ : (ltcV k m).size ≤ 1000000 := by unfold ltcV; split; decide; exact Nat.le_trans sh_size (by omega)
  have MK := hid fun V kk (hkk : kk ≤ 1000000) => r2_Make_num V kk (2 ^ m) (Nat.le_trans (nDigits_le (k := 7) (by omega) (by omega)) (by omega)) (Nat.le_trans (nDigits_le (k := 4) (by omega) (by omega)) (by omega)) hp0
  have H2 := fun V => hid (r2_Int V (2 ^ m) (by omega))
  have wsh : IntKind.i64.wrap ((2 : Int) ^ m) = ((2 ^ m : Nat) : Int) := by
    have e : ((2 ^ m : Nat) : Int) = (2 : Int) ^ m := by simp
    rw [← e]
    rw [IntWalk.i64_in _ ⟨by omega, by omega⟩]
  have bm1 : (0 : Int) ≤ (m : Int) := by omega
  have bm2 : (m : Int) ≤ 64 := by omega
  obtain ⟨M, hM⟩ : ∃ M, 2 ^ m = M := ⟨_, rfl⟩
  have HM := hid hM
  have HAL := hid (show (allW m).length = M by rw [allW_length, hM])
  rw [hM] at hp PE BND LPS MK H2 wsh hp0 hp1
  rw [HWS.out] at LPS
  obtain ⟨LT, hLT⟩ : ∃ s, ltcV k m = s := ⟨_, rfl⟩
  rw [hLT] at PLT BND LSZ
  have hmk := make_ints N (by omega)
  have HK := hid hk
  clear hL hv he hws hN hlen hS hM hLT h3 h4 hk HED0 E1 E2
  go_enter Tryz.func5, Tryz.ntmps5
  go_wp2_with fail
  refine HLV.out.mono ?_; rintro e w1 ⟨rfl, hb1⟩
  have y1 := hid hb1; clear hb1
  go_wp2_with fail
  refine (PE _ _ (HV.out.call y1.out) (HL.out.call y1.out)).out.mono ?_; rintro e w2 ⟨⟨u, rfl, hu⟩, hb2⟩
  have y2 := hid (bnext y1.out hb2)
  have U2 := hid hu
  obtain ⟨a2, d2, rfl, u1, u2, -⟩ := hu.ex
  obtain ⟨D, hD⟩ : ∃ D, (sortM (lawP ws M N)).length = D := ⟨_, rfl⟩
  rw [hD] at U2 u1 ⊢
  have HD := hid hD
  clear hb2 hu hD
  go_wp2_with fail
  refine (PA _).out.mono ?_; rintro e w4 ⟨⟨v4, rfl, hv4⟩, hb4⟩
  have y4 := hid (bnext y2.out hb4)
  have U4 := hid (U2.out.call hb4)
  have V4 := hid hv4
  obtain ⟨a4, d4, rfl, s1, s2, -⟩ := hv4.openS
  rw [List.length_map, HAL.out] at V4 s1 ⊢
  clear hb4 hv4
  go_wp2_with fail
  have X4 := Blk.new w4 (madeCells #[.int .i64 0] N) 3
  have B4 := hid ((Below.refl w4.heap.size w4).alloc (Nat.le_refl _) (.cells (madeCells #[.int .i64 0] N) 3))
  rw [made_ints] at X4 B4 ⊢
  have X5 := hid (show Arr .i64 3 _ w4.heap.size (cntL (pkF ws) N ((allW m).take 0)) by rw [List.take_zero, cntL_nil]; exact X4)
  have U5 := hid (U4.out.call B4.out)
  have V5 := hid (V4.out.call B4.out)
  have y5 := hid (bnext y4.out B4.out)
  obtain ⟨w5, hw5⟩ : ∃ w5, w4.alloc (.cells (ints .i64 (List.replicate N 0)).toArray 3) = w5 := ⟨_, rfl⟩
  obtain ⟨g, hgg⟩ : ∃ g, w4.heap.size = g := ⟨_, rfl⟩
  rw [hw5] at X5 U5 V5 y5 ⊢
  rw [hgg] at X5 ⊢
  have G1 : Hid (w4.heap.size ≤ g) := by rw [← hgg]; exact Nat.le_refl _
  have W5 : Hid (Below g w4 w5) := by rw [← hgg, ← hw5]; exact (Below.refl w4.heap.size w4).alloc (Nat.le_refl _) _
  clear X4 B4 hw5 hgg
  go_loopw [14, 15] (fun s12 s13 wr => ∃ j : Nat, s12 = .int .i64 (noneL (pkF ws) ((allW m).take j) : Nat) ∧ s13 = .int .i64 (j : Nat) ∧ j ≤ M ∧ Hid (Arr .i64 3 wr g (cntL (pkF ws) N ((allW m).take j))) ∧ Hid (Below g w4 wr)) (fun s12 s13 wr => M - (intOf s13).toNat)
  case atStart => exact ⟨0, rfl, rfl, Nat.zero_le _, X5, W5⟩
  case round =>
    obtain ⟨j, rfl, rfl, hj, hX, hB⟩ := hrel
    have hB4 := hid (hB.out.mono G1.out)
    have yr := hid (bnext y4.out hB4.out)
    have hnle := noneL_le (pkF ws) ((allW m).take j)
    rw [List.length_take] at hnle
    by_cases hlt : j < M
    · obtain ⟨x, hx⟩ : ∃ x, (allW m)[j]? = some x := ⟨_, List.getElem?_eq_getElem (by rw [HAL.out]; exact hlt)⟩
      have hxm := List.mem_of_getElem? hx
      obtain ⟨g', o, rfl, hg', hc⟩ := V4.out.at (strs_get (show ((allW m).map tb)[j]? = some (tb x) by rw [List.getElem?_map, hx]; rfl))
      have hc2 := (hB4.out.cell (p := ⟨g', o + j, none⟩) hg').trans hc
      have HT : Hid ((allW m).take (j + 1) = (allW m).take j ++ [x]) := by show (allW m).take (j + 1) = _; rw [List.take_add_one, hx]; rfl
      have PD := P3 x hxm _ _ (HV.out.call yr.out) (HL.out.call yr.out)
      obtain ⟨e1, e2⟩ := HED.out x hxm
      rw [e1, e2] at PD
      obtain ⟨f1, f2⟩ := draw_fit HPOS.out x
      obtain ⟨X, hXX⟩ : ∃ X, tb x = X := ⟨_, rfl⟩
      rw [hXX] at PD hc2
      obtain ⟨n0, hn0⟩ : ∃ n0, noneL (pkF ws) ((allW m).take j) = n0 := ⟨_, rfl⟩
      have HN0 := hid hn0
      rw [hn0] at hnle ⊢
      have b1 : (0 : Int) ≤ (j : Int) := by omega
      have b2 : (j : Int) < (M : Int) := by omega
      have wi : IntKind.i64.wrap ((j : Int) + 1) = ((j + 1 : Nat) : Int) := by rw [IntWalk.i64_in _ ⟨by omega, by omega⟩]; omega
      have wn : IntKind.i64.wrap ((n0 : Int) + 1) = ((n0 + 1 : Nat) : Int) := by rw [IntWalk.i64_in _ ⟨by omega, by omega⟩]; omega
      obtain ⟨r, hr⟩ : ∃ r, pdr (pkF ws) 0 1 x = r := ⟨_, rfl⟩
      rw [hr] at PD f1 f2
      obtain ⟨d, vv, uu⟩ := r
      have HR := hid hr
      simp only [dw3] at PD
      clear hx hxm hc hg' e1 e2 hXX hn0 hr
      cases d
      · have fv : vv = 0 := f2 rfl
        subst fv
        have q5 : decide ((N : Int) ≤ 0) = false := by simp; omega
        have h6 : Hid (cntL (pkF ws) N ((allW m).take (j + 1)) = cntL (pkF ws) N ((allW m).take j)) := by show _ = _; rw [HT.out]; exact cntL_late (by rw [HR.out])
        have h7 : Hid (noneL (pkF ws) ((allW m).take (j + 1)) = n0 + 1) := by show _ = _; rw [HT.out, noneL_late (by rw [HR.out]), HN0.out]
        clear f1 f2
        go_wp2_with fail
        refine PD.out.mono ?_; rintro e w6 ⟨rfl, hb6⟩
        have X6 := hid ((hX.out.call hb6).call ((Below.refl _ _).alloc (Nat.le_refl _) (.cells #[.bool false, .int .i64 0, .int .i64 (uu : Nat)] 48)))
        have B6 := hid (hB.out.trans ((hb6.mono (by have := hX.out.lt; omega)).alloc (by have := hX.out.lt; have := hb6.size; omega) (.cells #[.bool false, .int .i64 0, .int .i64 (uu : Nat)] 48)))
        clear hb6
        go_wp2_with fail
        go_roundw
        case rel => exact ⟨j + 1, by rw [h7.out]; go_num, by go_num, by omega, by rw [h6.out]; exact X6, B6⟩
        case measure => simp [intOf] <;> omega
      · have fv : vv < N := by have := f1 rfl; rw [HWS.out] at this; exact this
        have q5 : decide (N ≤ vv) = false := by simp; omega
        have q6 : decide ((vv : Int) < 0) = false := by simp
        obtain ⟨k0, hk0⟩ : ∃ k0, ((allW m).take j).countP (drawsI (pkF ws) vv) = k0 := ⟨_, rfl⟩
        have hk1 : k0 ≤ 256 := by
          have := List.countP_le_length (p := drawsI (pkF ws) vv) (l := (allW m).take j)
          rw [List.length_take, hk0] at this
          omega
        have hgt := cntL_get (f := pkF ws) (W := (allW m).take j) fv
        rw [hk0] at hgt
        have h6 : Hid (cntL (pkF ws) N ((allW m).take (j + 1)) = (cntL (pkF ws) N ((allW m).take j)).set vv (k0 + 1)) := by show _ = _; rw [HT.out, cntL_done HR.out fv, hk0]
        have h7 : Hid (noneL (pkF ws) ((allW m).take (j + 1)) = n0) := by show _ = _; rw [HT.out, noneL_done (by rw [HR.out]), HN0.out]
        have HGT := hid hgt
        have wk : IntKind.i64.wrap ((k0 : Int) + 1) = ((k0 + 1 : Nat) : Int) := by rw [IntWalk.i64_in _ ⟨by omega, by omega⟩]; omega
        have b3 : (0 : Int) ≤ (vv : Int) := by omega
        have b4 : (vv : Int) < (N : Int) := by omega
        clear f1 f2 hk0 hgt
        go_wp2_with fail
        refine PD.out.mono ?_; rintro e w6 ⟨rfl, hb6⟩
        have X6 := hid ((hX.out.call hb6).call ((Below.refl _ _).alloc (Nat.le_refl _) (.cells #[.bool true, .int .i64 (vv : Nat), .int .i64 (uu : Nat)] 48)))
        have B6 := hid (hB.out.trans ((hb6.mono (by have := hX.out.lt; omega)).alloc (by have := hX.out.lt; have := hb6.size; omega) (.cells #[.bool true, .int .i64 (vv : Nat), .int .i64 (uu : Nat)] 48)))
        have m1 := X6.out.cell HGT.out
        have m2 := X6.out.free vv
        have X7 := hid (X6.out.set vv (k0 + 1))
        have B7 := hid (below_set B6.out (g := g) (i := vv) (Nat.le_refl _) (.int .i64 ((k0 + 1 : Nat) : Int)))
        clear hb6
        go_wp2_with fail
        go_roundw
        case rel => exact ⟨j + 1, by rw [h7.out], by go_num, by omega, by rw [h6.out]; exact X7, B7⟩
        case measure => simp [intOf] <;> omega
    · obtain rfl : j = M := by omega
      have q1 : decide ((j : Int) < (j : Int)) = false := by simp
      have hT : (allW m).take j = allW m := List.take_of_length_le (by rw [HAL.out]; exact Nat.le_refl _)
      rw [hT] at hX hnle ⊢
      have hNL : noneL (pkF ws) (allW m) = j - lwS ws j N := by
        have := noneL_all HPOS.out m
        rw [HM.out, HWS.out] at this
        exact this
      rw [hNL] at hnle ⊢
      obtain ⟨K, hK⟩ : ∃ K, j - lwS ws j N = K := ⟨_, rfl⟩
      have HKK := hid hK
      rw [hK] at hnle ⊢
      clear hlt hT hNL hK
      go_wp2_with fail
      obtain ⟨wq, hwq⟩ : ∃ wq : World, wq = wr := ⟨_, rfl⟩
      subst hwq
      go_loopw [18, 19] (fun s16 s17 wr => ∃ i : Nat, s16 = .int .i64 (fndN ws j N i : Nat) ∧ s17 = .int .i64 (i : Nat) ∧ i ≤ N + 1 ∧ Hid (Below wq.heap.size wq wr)) (fun s16 s17 wr => N + 1 - (intOf s17).toNat)
      case atStart => exact ⟨0, by rw [fndN_zero]; rfl, rfl, Nat.zero_le _, Below.refl _ _⟩
      case round =>
        obtain ⟨i, rfl, rfl, hi, hB2⟩ := hrel
        have zr := hid (bnext yr.out hB2.out)
        have hll := fndN_le (ws := ws) (t := j) (N := N) (i := i)
        have wi : IntKind.i64.wrap ((i : Int) + 1) = ((i + 1 : Nat) : Int) := by rw [IntWalk.i64_in _ ⟨by omega, by omega⟩]; omega
        by_cases hlt : i < N
        · have hget := cntL_all (ws := ws) HPOS.out m (i := i) (by rw [HWS.out]; exact hlt)
          rw [HWS.out, HM.out] at hget
          have m1 := (hX.out.call hB2.out).cell hget
          have hcb : cnt ws j i ≤ j := Nat.le_trans (cnt_le ws j i HPOS.out) (Nat.sub_le _ _)
          have HLH := hid (fun h => lawP_has (ws := ws) (t := j) (N := N) hlt h)
          have HS0 := hid (fun h => fndN_skip (ws := ws) (t := j) (N := N) hlt h)
          have HS1 := hid (fun h => fndN_next (ws := ws) (t := j) (N := N) hlt h)
          obtain ⟨k0, hk0⟩ : ∃ k0, cnt ws j i = k0 := ⟨_, rfl⟩
          rw [hk0] at m1 hcb HS0 HS1 HLH hget
          obtain ⟨F, hF⟩ : ∃ F, fndN ws j N i = F := ⟨_, rfl⟩
          rw [hF] at hll HS0 HS1 ⊢
          have b1 : (0 : Int) ≤ (i : Int) := by omega
          have b2 : (i : Int) < (N : Int) := by omega
          have b3 : decide (i ≤ N) = true := by simp; omega
          have wf : IntKind.i64.wrap ((F : Int) + 1) = ((F + 1 : Nat) : Int) := by rw [IntWalk.i64_in _ ⟨by omega, by omega⟩]; omega
          have PI := fun V => hid (r2_Int V i (by omega))
          obtain ⟨I0, hI0⟩ : ∃ s, numB i = s := ⟨_, rfl⟩
          rw [hI0] at PI HLH
          have KK : Hid (∀ w', Below wr.heap.size wr w' → w'.cell? ⟨g, i, none⟩ = some (.int .i64 (k0 : Nat))) := fun w' hb => ((hX.out.call hB2.out).call hb).cell hget
          clear hF hk0 hI0 m1
          go_wp2_with fail
          refine held_plain [0, 1, 2, 3, 4] 3 (fun w' => w'.cell? ⟨g, i, none⟩ = some (.int .i64 (k0 : Nat))) (by kernel_rfl) (by kernel_rfl) (by kernel_rfl) (by kernel_rfl) (KK.out _ (Below.refl _ _).drew) ?_
          iterate 5
            refine ⟨_, rfl, ?_⟩
            apply Exists.intro
            refine ⟨.inl ⟨by rfl, ?_⟩, ?_⟩
            · (intro W' hW'; obtain q9 := hW'; go_simp; try (with_reducible rfl))
            (dsimp only [Act.put]; try simp only [List.setIfInBounds_toArray, List.set_cons_zero, List.set_cons_succ])
          refine held_one (i := 5) (by kernel_rfl) (by rfl) (by rfl) ?_
          go_wp2_with fail
          refine (PI _).out.mono ?_; rintro e w7 ⟨rfl, rfl⟩
          go_wp2_with fail
          refine ⟨KK.out _ (Below.refl _ _).drew, ?_⟩
          refine held_more (is := [6, 7]) (g := 0) (by kernel_rfl) rfl (KK.out _ (Below.refl _ _).drew) (by kernel_rfl) ?_
          iterate 2
            refine ⟨_, rfl, ?_⟩
            apply Exists.intro
            refine ⟨.inl ⟨by rfl, ?_⟩, ?_⟩
            · (intro W' hW'; obtain q9 := hW'; go_simp; try (with_reducible rfl))
            (dsimp only [Act.put]; try simp only [List.setIfInBounds_toArray, List.set_cons_zero, List.set_cons_succ])
          refine wpAnyH_done (by kernel_rfl) ?_ _
          simp only [Only]
          have x7 := hid (show Below wr.heap.size wr wr.drew from (Below.refl _ _).drew)
          by_cases h0 : k0 = 0
          · have q5 : ((k0 : Int) == 0) = true := by simp [h0]
            have h8 := hid (HS0.out h0)
            clear h0 hget
            go_wp2_with fail
            go_roundw
            case rel => exact ⟨i + 1, by rw [h8.out], by go_num, by omega, hid (bnext hB2.out x7.out)⟩
            case measure => simp [intOf] <;> omega
          · have q5 : ((k0 : Int) == 0) = false := by simp; omega
            have h8 := hid (HS1.out h0)
            have h9 := hid (HLH.out h0)
            have PI2 := fun V => hid (r2_Int V k0 (by omega))
            have PM := fun V => hid (MK.out V k0 (by omega))
            have PH := fun V v hV => hid (k_HasM V v (sortM (lawP ws j N)) I0 (shB k0 j) hV)
            rw [h9.out] at PH
            rw [show outB (qmk false k0 j) = shB k0 j from rfl] at PM
            obtain ⟨oE, hE⟩ : ∃ x, outE (qmk false k0 j) = x := ⟨_, rfl⟩
            obtain ⟨K0, hK0⟩ : ∃ s, numB k0 = s := ⟨_, rfl⟩
            obtain ⟨J0, hJ0⟩ : ∃ s, numB j = s := ⟨_, rfl⟩
            obtain ⟨S0, hS0⟩ : ∃ s, shB k0 j = s := ⟨_, rfl⟩
            have PJ := fun V => H2 V
            rw [hK0] at PI2 PM
            rw [hJ0] at PM PJ
            rw [hS0] at PM PH
            rw [hE] at PM
            clear h0 hget hE hK0 hJ0 hS0
            go_wp2_with fail
            refine held_plain [0, 2, 3] 8 (fun _ => True) (by kernel_rfl) (by kernel_rfl) (by kernel_rfl) (by kernel_rfl) trivial ?_
            iterate 3
              refine ⟨_, rfl, ?_⟩
              apply Exists.intro
              refine ⟨.inl ⟨by rfl, ?_⟩, ?_⟩
              · (intro W' hW'; clear hW'; go_simp; try (with_reducible rfl))
              (dsimp only [Act.put]; try simp only [List.setIfInBounds_toArray, List.set_cons_zero, List.set_cons_succ])
            refine held_one (i := 1) (by kernel_rfl) (by rfl) (by rfl) ?_
            go_wp2_with fail
            refine (PI2 _).out.mono ?_; rintro e w8a ⟨rfl, rfl⟩
            go_wp2_with fail
            refine ⟨trivial, ?_⟩
            refine held_one (i := 4) (by kernel_rfl) (by rfl) (by rfl) ?_
            go_wp2_with fail
            refine (PJ _).out.mono ?_; rintro e w8b ⟨rfl, rfl⟩
            go_wp2_with fail
            refine ⟨trivial, ?_⟩
            refine held_one (i := 5) (by kernel_rfl) (by rfl) (by rfl) ?_
            go_wp2_with fail
            refine (PM _).out.mono ?_; rintro e w8 ⟨rfl, hb8⟩
            have x8 := hid (show Below wr.heap.size wr w8 from bnext x7.out.drew hb8); clear hb8
            go_wp2_with fail
            refine ⟨trivial, ?_⟩
            refine held_more (is := [6, 7, 8, 9, 10]) (g := 0) (by kernel_rfl) rfl trivial (by kernel_rfl) ?_
            iterate 5
              refine ⟨_, rfl, ?_⟩
              apply Exists.intro
              refine ⟨.inl ⟨by rfl, ?_⟩, ?_⟩
              · (intro W' hW'; clear hW'; go_simp; try (with_reducible rfl))
              (dsimp only [Act.put]; try simp only [List.setIfInBounds_toArray, List.set_cons_zero, List.set_cons_succ])
            refine wpAnyH_done (by kernel_rfl) ?_ _
            simp only [Only]
            go_wp2_with fail
            refine (PH _ _ (((U4.out.call hB4.out).call hB2.out).call x8.out)).out.mono ?_; rintro e w9 ⟨rfl, hb9⟩
            have x9 := hid (bnext x8.out hb9)
            clear hb9
            go_wp2_with fail
            go_roundw
            case rel => exact ⟨i + 1, by rw [h8.out]; go_num, by go_num, by omega, hid (bnext hB2.out x9.out)⟩
            case measure => simp [intOf] <;> omega
        · by_cases hlt2 : i = N
          · subst hlt2
            have b3 : decide (i ≤ i) = true := by simp
            have b4 : decide (i < i) = false := by simp
            obtain ⟨F, hF⟩ : ∃ F, fndN ws j i i = F := ⟨_, rfl⟩
            have HF := hid hF
            rw [hF] at hll ⊢
            have wf : IntKind.i64.wrap ((F : Int) + 1) = ((F + 1 : Nat) : Int) := by rw [IntWalk.i64_in _ ⟨by omega, by omega⟩]; omega
            clear hF hlt
            have x7 := hid (show Below wr.heap.size wr wr from (Below.refl _ _))
            by_cases h0 : K = 0
            · have q5 : ((K : Int) == 0) = true := by simp [h0]
              have h8 := hid (fndN_none (ws := ws) (t := j) (N := i) (by rw [HKK.out]; exact h0))
              clear h0
              go_wp2_with fail
              go_roundw
              case rel => exact ⟨i + 1, by rw [h8.out, HF.out], by go_num, by omega, hB2⟩
              case measure => simp [intOf] <;> omega
            · have q5 : ((K : Int) == 0) = false := by simp; omega
              have h8 := hid (fndN_late (ws := ws) (t := j) (N := i) (by rw [HKK.out]; exact h0))
              have h9 := (lawP_last (ws := ws) (t := j) (N := i) (by rw [HKK.out]; exact h0)).1
              rw [HKK.out] at h9
              have PI2 := fun V => hid (r2_Int V K (by omega))
              have PM := fun V => hid (MK.out V K (by omega))
              have PH := fun V v hV => hid (k_HasM V v (sortM (lawP ws j i)) lateB (shB K j) hV)
              rw [h9] at PH
              unfold lateB at PH
              rw [show outB (qmk false K j) = shB K j from rfl] at PM
              obtain ⟨oE, hE⟩ : ∃ x, outE (qmk false K j) = x := ⟨_, rfl⟩
              obtain ⟨K0, hK0⟩ : ∃ s, numB K = s := ⟨_, rfl⟩
              obtain ⟨J0, hJ0⟩ : ∃ s, numB j = s := ⟨_, rfl⟩
              obtain ⟨S0, hS0⟩ : ∃ s, shB K j = s := ⟨_, rfl⟩
              have PJ := fun V => H2 V
              rw [hK0] at PI2 PM
              rw [hJ0] at PM PJ
              rw [hS0] at PM PH
              rw [hE] at PM
              clear h0 hE hK0 hJ0 hS0 h9
              go_wp2_with fail
              refine held_plain [0, 2, 3] 8 (fun _ => True) (by kernel_rfl) (by kernel_rfl) (by kernel_rfl) (by kernel_rfl) trivial ?_
              iterate 3
                refine ⟨_, rfl, ?_⟩
                apply Exists.intro
                refine ⟨.inl ⟨by rfl, ?_⟩, ?_⟩
                · (intro W' hW'; clear hW'; go_simp; try (with_reducible rfl))
                (dsimp only [Act.put]; try simp only [List.setIfInBounds_toArray, List.set_cons_zero, List.set_cons_succ])
              refine held_one (i := 1) (by kernel_rfl) (by rfl) (by rfl) ?_
              go_wp2_with fail
              refine (PI2 _).out.mono ?_; rintro e w8a ⟨rfl, rfl⟩
              go_wp2_with fail
              refine ⟨trivial, ?_⟩
              refine held_one (i := 4) (by kernel_rfl) (by rfl) (by rfl) ?_
              go_wp2_with fail
              refine (PJ _).out.mono ?_; rintro e w8b ⟨rfl, rfl⟩
              go_wp2_with fail
              refine ⟨trivial, ?_⟩
              refine held_one (i := 5) (by kernel_rfl) (by rfl) (by rfl) ?_
              go_wp2_with fail
              refine (PM _).out.mono ?_; rintro e w8 ⟨rfl, hb8⟩
              have x8 := hid (show Below wr.heap.size wr w8 from bnext x7.out.drew hb8); clear hb8
              go_wp2_with fail
              refine ⟨trivial, ?_⟩
              refine held_more (is := [6, 7, 8, 9, 10]) (g := 0) (by kernel_rfl) rfl trivial (by kernel_rfl) ?_
              iterate 5
                refine ⟨_, rfl, ?_⟩
                apply Exists.intro
                refine ⟨.inl ⟨by rfl, ?_⟩, ?_⟩
                · (intro W' hW'; clear hW'; go_simp; try (with_reducible rfl))
                (dsimp only [Act.put]; try simp only [List.setIfInBounds_toArray, List.set_cons_zero, List.set_cons_succ])
              refine wpAnyH_done (by kernel_rfl) ?_ _
              simp only [Only]
              go_wp2_with fail
              refine (PH _ _ (((U4.out.call hB4.out).call hB2.out).call x8.out)).out.mono ?_; rintro e w9 ⟨rfl, hb9⟩
              have x9 := hid (bnext x8.out hb9)
              clear hb9
              go_wp2_with fail
              go_roundw
              case rel => exact ⟨i + 1, by rw [h8.out, HF.out]; go_num, by go_num, by omega, hid (bnext hB2.out x9.out)⟩
              case measure => simp [intOf] <;> omega
          · obtain rfl : i = N + 1 := by omega
            have q1 : decide (N + 1 ≤ N) = false := by simp
            rw [fndN_end, HD.out] at hll ⊢
            have VL := fun V v hV => hid (w_value V v (sortM (lawP ws j N)) lateB hV)
            rw [val_late, HKK.out] at VL
            have LPB := LPS.out
            rw [HKK.out] at LPB
            obtain ⟨cl, ce⟩ := BND.out K (by have := HK.out; omega) (by omega)
            have PC := fun V => hid (r2_Cmp V (shB K j) LT (Nat.le_trans sh_size (by omega)) LSZ)
            rw [ce] at PC
            obtain ⟨S0, hS0⟩ : ∃ s, shB K j = s := ⟨_, rfl⟩
            rw [hS0] at VL PC cl
            unfold lateB at VL
            obtain ⟨cb, hcb⟩ : ∃ z, cmB S0 LT = z := ⟨_, rfl⟩
            rw [hcb] at PC cl
            have q2 : decide (cb ≤ 0) = true := by simpa using cl
            have q3 : ((D : Int) == (D : Int)) = true := by simp
            clear hlt hlt2 LPB ce hS0 hcb cl
            go_wp2_with fail
            refine (PLT _ (HL.out.call zr.out)).out.mono ?_; rintro e w7 ⟨rfl, hb7⟩
            have z7 := hid (bnext zr.out hb7)
            have U7 := hid ((((U4.out.call hB4.out).call hB2.out).call hb7))
            clear hb7
            go_wp2_with fail
            refine (VL _ _ U7.out).out.mono ?_; rintro e w8 ⟨rfl, rfl⟩
            go_wp2_with fail
            refine (PC _).out.mono ?_; rintro e w9 ⟨rfl, hb9⟩
            have z9 := hid (bnext z7.out hb9)
            clear hb9
            go_wp2_with fail
            go_ret
            exact ⟨rfl, z9.out⟩
theorem w_ChooseCounts (w : World) (v : Value) (us : List Int) (s : ByteArray) (B n : Int) (hv : Row w v (zs us)) (hs : s.size ≤ 9223372036854775807) (hL : Lay w) :
    Calls Tryz.prog 5 #[v, .string s, .int .i64 B, .int .i64 n] w fun e w' => e = .returned (.bool true) ∧ Below w.heap.size w w' := by
  by_cases h : 70 < us.length ∨ 20 < s.size ∨ 20 < B ∨ n < 0 ∨ 8 < n
  · exact ck_over w v us s B n hv hs hL h
  · obtain ⟨m, rfl⟩ : ∃ m : Nat, n = m := ⟨n.toNat, by omega⟩
    by_cases he : cwE us s B = 0
    · exact ck_main w v us s B m hv hL (by omega) (by omega) (by omega) (by omega) he
    · exact ck_err w v us s B m hv hL (by omega) (by omega) (by omega) (by omega) he
end Go.Proofs.YtpehhgkghgbhiaaGreatDoor
namespace Go.Proofs.YtpehhgkghgbhiaaGreatDoor
open Go.RowKit
set_option linter.unusedVariables false
set_option linter.unusedSimpArgs false
theorem info_byte : (Tryz.prog.info? 5).map (fun i => (i.zero, i.size, i.bytes)) = some (some (.int .u8 0), 1, 1) := by kernel_rfl
theorem room_bytes (n : Nat) (hn : n ≤ 3000000) (W : World) : (Instr.makeSlice 98 (.int .i64 0) (.int .i64 (n : Int))).run Tryz.prog W = .ok (.slice (some ⟨W.heap.size, 0, none⟩) 0 n) (W.alloc (.cells (madeCells #[.int .u8 0] n) 5)) :=
  run_make_room (P := Tryz.prog) 98 5 (.int .u8 0) 1 Tryz.underlying98 (by kernel_rfl) rfl .i64 .i64 n (by omega) (by omega) W
theorem owns_bytes (w : World) (n : Nat) (hn : n ≤ 3000000) : (w.alloc (.cells (madeCells #[.int .u8 0] n) 5)).ownsRow w.heap.size 5 1 (.slice (some ⟨w.heap.size, 0, none⟩) 0 n) 0 [] :=
  World.ownsRow_made w _ n (Nat.le_refl _) (by unfold maxLen; omega) (by have := size_madeCells #[Value.int .u8 0] n; simpa using this)
/-- The bytes of a text, n times. -/
def repL (l : List UInt8) : Nat → List UInt8
  | 0 => []
  | n + 1 => repL l n ++ l
theorem repL_length (l : List UInt8) : ∀ n, (repL l n).length = n * l.length
  | 0 => by simp [repL]
  | n + 1 => by rw [repL, List.length_append, repL_length l n, Nat.add_mul, Nat.one_mul]
def byteV (l : List UInt8) : List Value := l.map fun b => Value.int .u8 b.toNat
set_option maxRecDepth 100000 in
set_option maxHeartbeats 2000000 in
theorem k_Times (w : World) (s : ByteArray) (n : Nat) (hs : s.size ≤ 100) (hn : n ≤ 10000) (hs0 : 0 < s.size) :
    Calls Tryz.prog 26 #[.string s, .int .i64 (n : Nat)] w fun e w' => e = .returned (.string ⟨(repL s.data.toList n).toArray⟩) ∧ Below w.heap.size w w' := by
  obtain ⟨i0, hi, hz0, hz1, hz2⟩ := info_parts info_byte
  have hK : n * s.size ≤ 1000000 := Nat.le_trans (Nat.mul_le_mul hn hs) (by omega)
  have wk : IntKind.i64.wrap ((n : Int) * (s.size : Int)) = ((n * s.size : Nat) : Int) := by
    rw [← Int.natCast_mul, IntWalk.i64_in _ ⟨by omega, by omega⟩]
  have mx : max (0 : Int) (n : Int) = (n : Int) := by omega
  have hmk := room_bytes (n * s.size) (by omega)
  have hln : s.data.toList.length = s.size := by simp
  have HLN := hid hln
  have O0 := hid (owns_bytes w (n * s.size) (by omega))
  have B0 := hid ((Below.refl w.heap.size w).alloc (Nat.le_refl _) (.cells (madeCells #[.int .u8 0] (n * s.size)) 5))
  obtain ⟨K, hKK⟩ : ∃ K, n * s.size = K := ⟨_, rfl⟩
  rw [hKK] at hK wk hmk O0 B0
  have HKK := hid hKK
  obtain ⟨z, hz⟩ : ∃ z, s.size = z := ⟨_, rfl⟩
  rw [hz] at wk hs hs0 HKK HLN
  have HZ := hid hz
  clear hln hKK
  go_enter Tryz.func26, Tryz.ntmps26
  go_wp2_with fail
  have hlen : ∀ i, i ≤ n → i * z ≤ K := fun i h => by rw [← HKK.out]; exact Nat.mul_le_mul_right _ h
  have HLEN := hid hlen
  clear hlen wk mx hmk
  go_loopw [5, 6] (fun s5 s6 wr => ∃ i : Nat, s6 = .int .i64 (i : Nat) ∧ i ≤ n ∧ Hid (s5 ≠ .slice none 0 0) ∧ Hid (wr.ownsRow w.heap.size 5 1 s5 (i * z) (byteV (repL s.data.toList i))) ∧ Hid (Below w.heap.size w wr)) (fun s5 s6 wr => n - (intOf s6).toNat)
  case atStart => exact ⟨0, rfl, Nat.zero_le _, fun e => by simp at e, by rw [Nat.zero_mul]; exact O0.out, B0.out⟩
  case round =>
    obtain ⟨i, rfl, hi2, hne, hO, hB⟩ := hrel
    by_cases hlt : i < n
    · have h1 := HLEN.out (i + 1) hlt
      rw [Nat.add_mul, Nat.one_mul] at h1
      have b1 : (0 : Int) ≤ (i : Int) := by omega
      have b2 : (i : Int) < (n : Int) := by omega
      go_wp2_with (at_builtin; refine Lib.wpList_append_own_string _ rfl _ _ 98 9 rfl w.heap.size 5 i0 Tryz.underlying98 Tryz.underlying9 hi hz0 hz1 hz2 _ (i * z) _ rfl hO.out s rfl (by have := HZ.out; unfold maxLen; omega) (by have := HZ.out; omega) hB.out.size ?_; intro v' w3 hown3 hgrow3 hnn)
      have hO3 := hid (show w3.ownsRow w.heap.size 5 1 v' ((i + 1) * z) (byteV (repL s.data.toList (i + 1))) by
        rw [repL, byteV, List.map_append, Nat.add_mul, Nat.one_mul, ← HZ.out]; rw [HZ.out]; rw [HZ.out] at hown3; exact hown3)
      have hN3 : Hid (v' ≠ .slice none 0 0) := fun e => hne.out (hnn.1 e).1
      have hB3 : Hid (Below w.heap.size w w3) := by
        refine hB.out.trans ⟨hgrow3.os, hgrow3.tape, hgrow3.output, hgrow3.size, fun k hk => hgrow3.block k (by have := hB.out.size; omega) (fun e => ?_)⟩
        have := (hO.out.lt k e.symm).1
        omega
      clear hown3 hgrow3 hnn
      go_wp2_with fail
      go_roundw
      case rel => exact ⟨i + 1, by go_num, by omega, hN3, hO3, hB3⟩
      case measure => simp [intOf] <;> omega
    · obtain rfl : i = n := by omega
      have q1 : decide ((i : Int) < (i : Int)) = false := by simp
      have ho := hO.out
      rcases ho.2 with ⟨e, -⟩ | ⟨g, cap, cur, rfl, hb1, hg, hc1, hc2, hc3, hc4⟩
      · exact absurd e hne.out
      · have hl : (repL s.data.toList i).length = i * z := by rw [repL_length, HLN.out]
        have hcv : (convert 98 9 (.slice (some ⟨g, 0, none⟩) (i * z) cap)).run Tryz.prog wr = .ok (.string ⟨(repL s.data.toList i).toArray⟩) wr := by
          have := Go.run_convert_bytes_back (P := Tryz.prog) wr 98 9 5 ⟨g, 0, none⟩ cap (repL s.data.toList i) Tryz.underlying98 Tryz.underlying5 Tryz.underlying9 (fun j hj => ho.cells rfl j _ (by
            unfold byteV
            rw [List.getElem?_map, List.getElem?_eq_getElem hj]
            rfl))
          rwa [hl] at this
        clear hlt ho hb1 hg hc1 hc2 hc3 hc4 hl
        go_wp2_with fail
        go_ret
        exact ⟨rfl, hB.out⟩
end Go.Proofs.YtpehhgkghgbhiaaGreatDoor
namespace Go.Proofs.YtpehhgkghgbhiaaGreatDoor
open Go.RowKit
open Go.Lib (decDigits nDigits)
set_option linter.unusedVariables false
/-- Small texts. -/
def d0 : ByteArray := ⟨#[48]⟩
def d1 : ByteArray := ⟨#[49]⟩
def d2 : ByteArray := ⟨#[50]⟩
def d5 : ByteArray := ⟨#[53]⟩
/-- Small fractions' texts. -/
theorem tx_frac {a b : Nat} {t : ByteArray} (hb : b ≠ 0) (hb1 : (mkRat (a : Int) b).den ≠ 1) (ha : a < 10) (hbb : b < 10) (h : t.data.toList = [UInt8.ofNat (48 + (mkRat (a : Int) b).num.natAbs), 47, UInt8.ofNat (48 + (mkRat (a : Int) b).den)]) (h1 : (mkRat (a : Int) b).num.natAbs < 10) (h2 : (mkRat (a : Int) b).den < 10) (h3 : ¬ (mkRat (a : Int) b).num < 0) : shB a b = t := by
  rw [shB_tx hb (by rw [Go.Lib.nDigits_small ha]; omega) (by rw [Go.Lib.nDigits_small hbb]; omega)]
  apply ba_ext
  rw [txQ, txB_list, h, decDigits_small h1, decDigits_small h2, decide_eq_false h3, if_neg hb1]
  rfl
theorem tx_14 : shB 1 4 = ⟨#[49, 47, 52]⟩ := tx_frac (by decide) (by decide +kernel) (by decide) (by decide) (by decide +kernel) (by decide +kernel) (by decide +kernel) (by decide +kernel)
theorem tx_24 : shB 2 4 = ⟨#[49, 47, 50]⟩ := tx_frac (by decide) (by decide +kernel) (by decide) (by decide) (by decide +kernel) (by decide +kernel) (by decide +kernel) (by decide +kernel)
theorem sortM_id {L : List (ByteArray × ByteArray)} (h : L.Pairwise (fun p q => leB (keyL p) (keyL q) = true)) : sortM L = L := List.mergeSort_of_pairwise h
end Go.Proofs.YtpehhgkghgbhiaaGreatDoor
namespace Go.Proofs.YtpehhgkghgbhiaaGreatDoor
open Go.RowKit Go.Shelf
open Go.Lib (decDigits nDigits)
set_option linter.unusedVariables false
theorem shB_scale {a b c : Nat} (hc : c ≠ 0) : shB (a * c) (b * c) = shB a b := by
  unfold shB
  rw [qmk_nat, qmk_nat, Int.natCast_mul, Rat.mkRat_mul_right hc]
end Go.Proofs.YtpehhgkghgbhiaaGreatDoor
namespace Go.Proofs.YtpehhgkghgbhiaaGreatDoor
open Go.RowKit
open Go.Lib (decDigits nDigits)
set_option linter.unusedVariables false
theorem bp_kilo : bPE ⟨#[49, 48, 48, 48]⟩ = 0 ∧ (cW ⟨#[49, 48, 48, 48]⟩).size = 4 := by decide +kernel
theorem bp_half : bPE ⟨#[49, 47, 50]⟩ = 2 := by decide +kernel
theorem bp_two : bPE ⟨#[50]⟩ = 0 ∧ (cW ⟨#[50]⟩).size = 1 := by decide +kernel
theorem vq_two : (vQ ⟨#[50]⟩).num.natAbs = 2 ∧ (vQ ⟨#[50]⟩).den = 1 := by decide +kernel
theorem en_a : mbB ⟨#[51, 47, 50]⟩ = 200 ∧ bPE ⟨#[51, 47, 50]⟩ = 0 := ⟨by rw [mbB, if_pos bp_three.1, bp_three.2], bp_three.1⟩
theorem en_b : mbB ⟨#[49, 48, 48, 48]⟩ = 50 ∧ bPE ⟨#[49, 48, 48, 48]⟩ = 0 := ⟨by rw [mbB, if_pos bp_kilo.1, bp_kilo.2], bp_kilo.1⟩
theorem en_c : mbB ⟨#[49, 47, 50]⟩ = 0 ∧ bPE ⟨#[49, 47, 50]⟩ = 2 := ⟨by rw [mbB, if_neg (by rw [bp_half]; decide)], bp_half⟩
theorem en_dE : cwE [5, -9] ⟨#[50]⟩ 1 = 0 := by
  unfold cwE mbB
  rw [bp_two.1, bp_two.2]
  decide
theorem en_d : cwR [5, -9] ⟨#[50]⟩ 1 = [⟨#[52]⟩, ⟨#[49]⟩] := by
  rw [cwR, if_pos en_dE]
  unfold cwT
  rw [vq_two.1, vq_two.2]
  show [numB (cwN 2 1 1 5), numB (cwN 2 1 1 (-9))] = _
  rw [show cwN 2 1 1 5 = 4 by decide, show cwN 2 1 1 (-9) = 1 by decide, dig1 (by omega), dig1 (by omega)]
  rfl
theorem cwR_err {us : List Int} {s : ByteArray} {B : Int} {z : Int} (h : cwE us s B = z) (hz : z ≠ 0) : cwR us s B = [] ∧ cwE us s B = z := ⟨by rw [cwR, if_neg (by rw [h]; exact hz)], h⟩
theorem en_e : cwR [0] ⟨#[50]⟩ (-1) = [] ∧ cwE [0] ⟨#[50]⟩ (-1) = 2 := cwR_err (by
  unfold cwE mbB
  rw [bp_two.1, bp_two.2]
  decide) (by decide)
theorem en_m : cwR [] ⟨#[50]⟩ 1 = [] ∧ cwE [] ⟨#[50]⟩ 1 = 2 := cwR_err (by
  unfold cwE mbB
  rw [bp_two.1, bp_two.2]
  decide) (by decide)
theorem en_n : cwR [0] ⟨#[51, 47, 50]⟩ 201 = [] ∧ cwE [0] ⟨#[51, 47, 50]⟩ 201 = 2 := cwR_err (by
  unfold cwE mbB
  rw [bp_three.1, bp_three.2]
  decide) (by decide)
theorem en_q : exR (cwR [1125899906842625] ⟨#[51]⟩ 1) = [] ∧ cwE [1125899906842625] ⟨#[51]⟩ 1 = 2 := by
  have h : cwE [1125899906842625] ⟨#[51]⟩ 1 = 2 := by
    unfold cwE mbB
    rw [bp_tri.1, bp_tri.2]
    decide
  exact ⟨by rw [(cwR_err h (by decide)).1]; exact exR_nil, h⟩
theorem cd_draw {us : List Int} {s : ByteArray} {B : Int} {ws : List Nat} {b : ByteArray} {r : Bool × Nat × Nat} (h : cwE us s B = 0) (hb : cwV us s B = ws) (hc : chkE b = 0) (hr : pdr (pkF ws) 0 1 b.data.toList = r) : dr3 (cwR us s B) b = r ∧ cdE us s B b = 0 := by
  have hW : wsE (cwT us s B) = 0 := wsE_cw (cw_good h).1
  have hE : drE (cwT us s B) b = 0 := by
    unfold drE
    rw [hW, if_neg (by simp)]; exact hc
  refine ⟨?_, by rw [cdE, h, if_neg (by simp)]; exact hE⟩
  rw [cwR, if_pos h]
  unfold dr3
  rw [if_pos hE, cwV_bN, hb, hr]
theorem en_f : dr3 (cwR [0, 1] ⟨#[51]⟩ 1) ⟨#[49, 49]⟩ = (true, 1, 1) ∧ cdE [0, 1] ⟨#[51]⟩ 1 ⟨#[49, 49]⟩ = 0 := cd_draw lv_E2 lv_V2 (by decide) (by
  show pdr (pkF [3, 9]) 0 1 [49, 49] = _
  rw [pdr_next (by decide), pdr_done (by decide)]
  decide)
theorem en_gE : cwE [7] ⟨#[51]⟩ 0 = 0 := by
  unfold cwE mbB
  rw [bp_tri.1, bp_tri.2]
  decide
theorem en_g : dr3 (cwR [7] ⟨#[51]⟩ 0) ⟨#[]⟩ = (true, 0, 0) ∧ cdE [7] ⟨#[51]⟩ 0 ⟨#[]⟩ = 0 := cd_draw (ws := [1]) en_gE (by
  unfold cwV cwL
  rw [vq_tri.1, vq_tri.2]
  decide) (by decide) (by
  show pdr (pkF [1]) 0 1 [] = _
  rw [pdr_done (by decide)]
  decide)
theorem en_o : dr3 (cwR [0, 1] ⟨#[51]⟩ 1) ⟨#[50]⟩ = (false, 0, 0) ∧ cdE [0, 1] ⟨#[51]⟩ 1 ⟨#[50]⟩ = 3 := by
  have hW : wsE (cwT [0, 1] ⟨#[51]⟩ 1) = 0 := wsE_cw (cw_good lv_E2).1
  have hE : drE (cwT [0, 1] ⟨#[51]⟩ 1) ⟨#[50]⟩ = 3 := by
    unfold drE
    rw [hW]
    decide
  refine ⟨?_, by rw [cdE, lv_E2, if_neg (by simp)]; exact hE⟩
  rw [cwR, if_pos lv_E2]
  unfold dr3
  rw [if_neg (by rw [hE]; decide)]
theorem tx_34 : shB 3 4 = ⟨#[51, 47, 52]⟩ := tx_frac (by decide) (by decide +kernel) (by decide) (by decide) (by decide +kernel) (by decide +kernel) (by decide +kernel) (by decide +kernel)
theorem tx_12 : shB 1 2 = ⟨#[49, 47, 50]⟩ := tx_frac (by decide) (by decide +kernel) (by decide) (by decide) (by decide +kernel) (by decide +kernel) (by decide +kernel) (by decide +kernel)
theorem en_h : exR (cwR [0, 1] ⟨#[51]⟩ 1) = [(⟨#[48]⟩, ⟨#[49, 47, 52]⟩), (⟨#[49]⟩, ⟨#[51, 47, 52]⟩)] := by
  have hx := (ex_good lv_E2).1
  rw [hx, lv_V2]
  show sortM (exL [3, 9] 12 2) = _
  have e : exL [3, 9] 12 2 = [(⟨#[48]⟩, ⟨#[49, 47, 52]⟩), (⟨#[49]⟩, ⟨#[51, 47, 52]⟩)] := by
    rw [exL, if_pos (by decide), exL, if_pos (by decide), exL]
    rw [show ([3, 9] : List Nat).getD 0 0 = 1 * 3 from rfl, show ([3, 9] : List Nat).getD 1 0 = 3 * 3 from rfl, show 12 = 4 * 3 from rfl, shB_scale (by decide), shB_scale (by decide), tx_14, tx_34, numB_zero, numB_one]
    rfl
  rw [e]
  exact sortM_id (by decide +kernel)
theorem en_iE : lawE (cwT [0, 1] ⟨#[51]⟩ 1) 1 = 0 := by
  have hW : wsE (cwT [0, 1] ⟨#[51]⟩ 1) = 0 := wsE_cw (cw_good lv_E2).1
  rw [lawE, if_neg (by rw [hW]; simp), if_neg (by omega)]
theorem en_i : lawR (cwR [0, 1] ⟨#[51]⟩ 1) 1 = [(⟨#[49]⟩, ⟨#[49, 47, 50]⟩), (⟨#[108, 97, 116, 101]⟩, ⟨#[49, 47, 50]⟩)] ∧ clE [0, 1] ⟨#[51]⟩ 1 1 = 0 := by
  refine ⟨?_, by rw [clE, lv_E2, if_neg (by simp)]; exact en_iE⟩
  rw [cwR, if_pos lv_E2, lawR, if_pos en_iE, cwV_bN, lv_V2]
  show sortM (lawP [3, 9] 2 2) = _
  have e : lawP [3, 9] 2 2 = [(⟨#[49]⟩, ⟨#[49, 47, 50]⟩), (⟨#[108, 97, 116, 101]⟩, ⟨#[49, 47, 50]⟩)] := by
    rw [lawP, if_neg (by decide), lawL, if_pos (by decide), lawL, if_neg (by decide), lawL]
    rw [show 2 - lwS [3, 9] 2 2 = 1 by decide, show cnt [3, 9] 2 1 = 1 by decide, tx_12, numB_one]
    rfl
  rw [e]
  exact sortM_id (by decide +kernel)
theorem en_p : lawR (cwR [0, 1] ⟨#[51]⟩ 1) 257 = [] ∧ clE [0, 1] ⟨#[51]⟩ 1 257 = 2 := by
  have hW : wsE (cwT [0, 1] ⟨#[51]⟩ 1) = 0 := wsE_cw (cw_good lv_E2).1
  have hE : lawE (cwT [0, 1] ⟨#[51]⟩ 1) 257 = 2 := by rw [lawE, if_neg (by rw [hW]; simp), if_pos (by omega)]
  refine ⟨?_, by rw [clE, lv_E2, if_neg (by simp)]; exact hE⟩
  rw [cwR, if_pos lv_E2, lawR, if_neg (by rw [hE]; simp)]
theorem en_j : ltcB 3 2 = ⟨#[49, 47, 50]⟩ ∧ ltcE 3 2 = 0 := by
  obtain ⟨h1, h2⟩ := lt_at (k := 2) (m := 2) (by omega) (by omega)
  refine ⟨h2.trans ?_, h1⟩
  rw [ltcV, if_neg (by decide)]
  exact tx_24
theorem en_k : ltcB 64 3 = ⟨#[49]⟩ ∧ ltcE 64 3 = 0 := by
  obtain ⟨h1, h2⟩ := lt_at (k := 63) (m := 3) (by omega) (by omega)
  refine ⟨h2.trans ?_, h1⟩
  rw [ltcV, if_pos (by decide)]
theorem en_l : ltcB 65 3 = ⟨#[]⟩ ∧ ltcE 65 3 = 2 := by
  have h : ltcE 65 3 = 2 := by decide
  exact ⟨by rw [ltcB, if_neg (by rw [h]; decide)], h⟩
/-- The text 10..0 of 1001 digits. -/
def bigC : ByteArray := (⟨#[49]⟩ : ByteArray) ++ ⟨(repL [48] 1000).toArray⟩
theorem bigC_list : bigC.data.toList = 49 :: repL [48] 1000 := by simp [bigC]
theorem en_r : mbB bigC = 0 ∧ bPE bigC = 5 := by
  have h : bPE bigC = 5 := by decide +kernel
  exact ⟨by rw [mbB, if_neg (by rw [h]; decide)], h⟩
end Go.Proofs.YtpehhgkghgbhiaaGreatDoor
namespace Go.Proofs.YtpehhgkghgbhiaaGreatDoor
open Go.RowKit Go.Shelf
set_option linter.unusedVariables false
set_option linter.unusedSimpArgs false
theorem row_lit (w : World) (L : List ByteArray) (n : Nat) (hn : L.length = n) (hL : n ≤ 1000) : Row (w.alloc (.cells (strs L).toArray 23)) (.slice (some ⟨w.heap.size, 0, none⟩) n n) (strs L) :=
  Row.of_blk (Blk.new w _ _) (by rw [strs_length]; exact hn) (by unfold maxLen; omega) (fun i x h => by rw [List.getElem?_toArray]; exact h) (Nat.le_refl _) (by unfold maxLen; omega)
theorem mrow_lit (w : World) (L : List (ByteArray × ByteArray)) (n : Nat) (hn : L.length = n) (hL : n ≤ 1000) : MRow (w.alloc (.cells (massC L).toArray 41)) (.slice (some ⟨w.heap.size, 0, none⟩) n n) L := by
  subst hn
  refine ⟨some ⟨w.heap.size, 0, none⟩, L.length, rfl, Nat.le_refl _, by omega, fun i x h => ⟨w.heap.size, 0, rfl, by simp, ?_, ?_⟩⟩
  · rw [Nat.zero_add, (Blk.new w _ _).cell, List.getElem?_toArray]; exact (massC_get h).1
  · rw [Nat.zero_add, (Blk.new w _ _).cell, List.getElem?_toArray]; exact (massC_get h).2
theorem rowZ_lit (w : World) (L : List Int) (n : Nat) (hn : L.length = n) (hL : n ≤ 1000) : Row (w.alloc (.cells (zs L).toArray 3)) (.slice (some ⟨w.heap.size, 0, none⟩) n n) (zs L) :=
  Row.of_blk (Blk.new w _ _) (by rw [zs_length]; exact hn) (by unfold maxLen; omega) (fun i x h => by rw [List.getElem?_toArray]; exact h) (Nat.le_refl _) (by unfold maxLen; omega)
end Go.Proofs.YtpehhgkghgbhiaaGreatDoor
namespace Go.Proofs.YtpehhgkghgbhiaaGreatDoor
open Go.RowKit Go.Shelf
open Go.Lib (decDigits nDigits)
set_option linter.unusedVariables false
set_option linter.unusedSimpArgs false
set_option maxRecDepth 100000 in
set_option maxHeartbeats 8000000 in
theorem w_ChooseNames (w : World) (hL : Lay w) :
    Calls Tryz.prog 6 #[] w fun e w' => e = .returned (.bool true) ∧ Below w.heap.size w w' := by
  have HLV := hid (w_lives w hL)
  have HL := hid hL
  have Pa := fun V hLV => hid (ch_MaxBound V ⟨#[51, 47, 50]⟩ (by decide) hLV)
  rw [en_a.1, en_a.2] at Pa
  have Pb := fun V hLV => hid (ch_MaxBound V ⟨#[49, 48, 48, 48]⟩ (by decide) hLV)
  rw [en_b.1, en_b.2] at Pb
  have Pc := fun V hLV => hid (ch_MaxBound V ⟨#[49, 47, 50]⟩ (by decide) hLV)
  rw [en_c.1, en_c.2] at Pc
  have Pd := fun V v hV hLV => hid (ch_Weights V v [5, -9] ⟨#[50]⟩ 1 hV (by decide) hLV)
  rw [en_d, en_dE] at Pd
  have Pe := fun V v hV hLV => hid (ch_Weights V v [0] ⟨#[50]⟩ (-1) hV (by decide) hLV)
  rw [en_e.1, en_e.2] at Pe
  have Pm := fun V v hV hLV => hid (ch_Weights V v [] ⟨#[50]⟩ 1 hV (by decide) hLV)
  rw [en_m.1, en_m.2] at Pm
  have Pn := fun V v hV hLV => hid (ch_Weights V v [0] ⟨#[51, 47, 50]⟩ 201 hV (by decide) hLV)
  rw [en_n.1, en_n.2] at Pn
  have Pf := fun V v hV hLV => hid (ch_Draw V v [0, 1] ⟨#[51]⟩ 1 ⟨#[49, 49]⟩ hV (by decide) (by decide) hLV)
  rw [en_f.1, en_f.2] at Pf
  have Pg := fun V v hV hLV => hid (ch_Draw V v [7] ⟨#[51]⟩ 0 ⟨#[]⟩ hV (by decide) (by decide) hLV)
  rw [en_g.1, en_g.2] at Pg
  have Po := fun V v hV hLV => hid (ch_Draw V v [0, 1] ⟨#[51]⟩ 1 ⟨#[50]⟩ hV (by decide) (by decide) hLV)
  rw [en_o.1, en_o.2] at Po
  have Ph := fun V v hV hLV => hid (ch_Exact V v [0, 1] ⟨#[51]⟩ 1 hV (by decide) hLV)
  rw [en_h, lv_E2] at Ph
  have Pi := fun V v hV hLV => hid (ch_Law V v [0, 1] ⟨#[51]⟩ 1 1 hV (by decide) hLV)
  rw [en_i.1, en_i.2] at Pi
  have Pp := fun V v hV hLV => hid (ch_Law V v [0, 1] ⟨#[51]⟩ 1 257 hV (by decide) hLV)
  rw [en_p.1, en_p.2] at Pp
  have Pq := fun V v hV hLV => hid (ch_Exact V v [1125899906842625] ⟨#[51]⟩ 1 hV (by decide) hLV)
  rw [en_q.1, en_q.2] at Pq
  have Pj := fun V hLV => hid (ch_Late V 3 2 hLV)
  rw [en_j.1, en_j.2] at Pj
  have Pk := fun V hLV => hid (ch_Late V 64 3 hLV)
  rw [en_k.1, en_k.2] at Pk
  have Pl := fun V hLV => hid (ch_Late V 65 3 hLV)
  rw [en_l.1, en_l.2] at Pl
  have PT := fun V => hid (k_Times V ⟨#[48]⟩ 1000 (by decide) (by decide) (by decide))
  obtain ⟨X, hX⟩ : ∃ X : ByteArray, (⟨(repL (⟨#[48]⟩ : ByteArray).data.toList 1000).toArray⟩ : ByteArray) = X := ⟨_, rfl⟩
  rw [hX] at PT
  have hbig : bigC = (⟨#[49]⟩ : ByteArray) ++ X := by rw [← hX]; rfl
  have hxs : bigC.size ≤ 100000 ∧ X.size ≤ 100000 := by
    have h : bigC.data.toList.length = bigC.size := by simp
    rw [bigC_list, List.length_cons, repL_length] at h
    have h2 : bigC.size = 1 + X.size := by rw [hbig, ByteArray.size_append]; rfl
    have h3 : ([48] : List UInt8).length = 1 := rfl
    omega
  have Pr := fun V hLV => hid (ch_MaxBound V bigC hxs.1 hLV)
  rw [en_r.1, en_r.2, hbig] at Pr
  have hx2 := hxs.2
  simp only [dw3] at Pf Pg Po
  clear hL hX hbig hxs
  go_enter Tryz.func6, Tryz.ntmps6
  go_wp2_with fail
  refine HLV.out.mono ?_; rintro e w0 ⟨rfl, hb0⟩
  have y0 := hid hb0; clear hb0
  go_wp2_with fail
  refine (Pa _ (HL.out.call y0.out)).out.mono ?_; rintro e w1 ⟨rfl, hb1⟩
  have b1 := hid hb1
  clear hb1
  have B1 := hid b1.out
  have y1 := hid (bnext y0.out B1.out)
  go_wp2_with fail
  refine (Pb _ (HL.out.call y1.out)).out.mono ?_; rintro e w2 ⟨rfl, hb2⟩
  have b2 := hid hb2
  clear hb2
  have B2 := hid b2.out
  have y2 := hid (bnext y1.out B2.out)
  go_wp2_with fail
  refine (Pc _ (HL.out.call y2.out)).out.mono ?_; rintro e w3 ⟨rfl, hb3⟩
  have b3 := hid hb3
  clear hb3
  have B3 := hid b3.out
  have y3 := hid (bnext y2.out B3.out)
  have A4_0 := hid ((Below.refl _ w3).alloc (Nat.le_refl _) (.cells #[.int .i64 5, .int .i64 (-9)] 3))
  have R4_0 : Hid (Row (w3.alloc (.cells #[.int .i64 5, .int .i64 (-9)] 3)) (.slice (some ⟨w3.heap.size, 0, none⟩) 2 2) (zs [5, -9])) := by
    exact rowZ_lit w3 [5, -9] 2 rfl (by decide)
  have x4_0 := hid (bnext y3.out A4_0.out)
  go_wp2_with fail
  refine (Pd _ _ R4_0.out (HL.out.call x4_0.out)).out.mono ?_; rintro e w4 ⟨⟨ud, rfl, hd⟩, hb4⟩
  have b4 := hid (bnext A4_0.out hb4)
  clear hb4
  have B4 := hid b4.out
  have y4 := hid (bnext y3.out B4.out)
  have Xd := hid hd; obtain ⟨ad, cd, rfl, -⟩ := hd.openS; clear hd
  simp only [List.length_cons, List.length_nil] at Xd ⊢
  have A5_0 := hid ((Below.refl _ w4).alloc (Nat.le_refl _) (.cells #[.int .i64 0] 3))
  have R5_0 : Hid (Row (w4.alloc (.cells #[.int .i64 0] 3)) (.slice (some ⟨w4.heap.size, 0, none⟩) 1 1) (zs [0])) := by
    exact rowZ_lit w4 [0] 1 rfl (by decide)
  have x5_0 := hid (bnext y4.out A5_0.out)
  go_wp2_with fail
  refine (Pe _ _ R5_0.out (HL.out.call x5_0.out)).out.mono ?_; rintro e w5 ⟨⟨ue, rfl, he⟩, hb5⟩
  have b5 := hid (bnext A5_0.out hb5)
  clear hb5
  have B5 := hid b5.out
  have y5 := hid (bnext y4.out B5.out)
  obtain ⟨ae, ce, rfl, -⟩ := he.openS; clear he
  simp only [List.length_nil]
  have A6_0 := hid ((Below.refl _ w5).alloc (Nat.le_refl _) (.cells #[.int .i64 0, .int .i64 1] 3))
  have R6_0 : Hid (Row (w5.alloc (.cells #[.int .i64 0, .int .i64 1] 3)) (.slice (some ⟨w5.heap.size, 0, none⟩) 2 2) (zs [0, 1])) := by
    exact rowZ_lit w5 [0, 1] 2 rfl (by decide)
  have x6_0 := hid (bnext y5.out A6_0.out)
  go_wp2_with fail
  refine (Pf _ _ R6_0.out (HL.out.call x6_0.out)).out.mono ?_; rintro e w6 ⟨rfl, hb6⟩
  have b6 := hid (bnext A6_0.out hb6)
  clear hb6
  have Xf := hid (Blk.new w6 #[.bool true, .int .i64 1, .int .i64 1] 48)
  have B6 := hid (bnext b6.out ((Below.refl w6.heap.size w6).alloc (Nat.le_refl _) (.cells #[.bool true, .int .i64 1, .int .i64 1] 48)))
  have y6 := hid (bnext y5.out B6.out)
  have A7_0 := hid ((Below.refl _ (w6.alloc (.cells #[.bool true, .int .i64 1, .int .i64 1] 48))).alloc (Nat.le_refl _) (.cells #[.int .i64 7] 3))
  have R7_0 : Hid (Row ((w6.alloc (.cells #[.bool true, .int .i64 1, .int .i64 1] 48)).alloc (.cells #[.int .i64 7] 3)) (.slice (some ⟨w6.heap.size + 1, 0, none⟩) 1 1) (zs [7])) := by
    rw [show w6.heap.size + 1 = ((w6.alloc (.cells #[.bool true, .int .i64 1, .int .i64 1] 48))).heap.size by simp]
    exact rowZ_lit (w6.alloc (.cells #[.bool true, .int .i64 1, .int .i64 1] 48)) [7] 1 rfl (by decide)
  have x7_0 := hid (bnext y6.out A7_0.out)
  go_wp2_with fail
  refine (Pg _ _ R7_0.out (HL.out.call x7_0.out)).out.mono ?_; rintro e w7 ⟨rfl, hb7⟩
  have b7 := hid (bnext A7_0.out hb7)
  clear hb7
  have Xg := hid (Blk.new w7 #[.bool true, .int .i64 0, .int .i64 0] 48)
  have B7 := hid (bnext b7.out ((Below.refl w7.heap.size w7).alloc (Nat.le_refl _) (.cells #[.bool true, .int .i64 0, .int .i64 0] 48)))
  have y7 := hid (bnext y6.out B7.out)
  have A8_0 := hid ((Below.refl _ (w7.alloc (.cells #[.bool true, .int .i64 0, .int .i64 0] 48))).alloc (Nat.le_refl _) (.cells #[.int .i64 0, .int .i64 1] 3))
  have R8_0 : Hid (Row ((w7.alloc (.cells #[.bool true, .int .i64 0, .int .i64 0] 48)).alloc (.cells #[.int .i64 0, .int .i64 1] 3)) (.slice (some ⟨w7.heap.size + 1, 0, none⟩) 2 2) (zs [0, 1])) := by
    rw [show w7.heap.size + 1 = ((w7.alloc (.cells #[.bool true, .int .i64 0, .int .i64 0] 48))).heap.size by simp]
    exact rowZ_lit (w7.alloc (.cells #[.bool true, .int .i64 0, .int .i64 0] 48)) [0, 1] 2 rfl (by decide)
  have x8_0 := hid (bnext y7.out A8_0.out)
  go_wp2_with fail
  refine (Ph _ _ R8_0.out (HL.out.call x8_0.out)).out.mono ?_; rintro e w8 ⟨⟨uh, rfl, hh⟩, hb8⟩
  have b8 := hid (bnext A8_0.out hb8)
  clear hb8
  have B8 := hid b8.out
  have y8 := hid (bnext y7.out B8.out)
  have Xh := hid hh; obtain ⟨ah, ch, rfl, -⟩ := hh.ex; clear hh
  simp only [List.length_cons, List.length_nil] at Xh ⊢
  have A9_0 := hid ((Below.refl _ w8).alloc (Nat.le_refl _) (.cells #[.int .i64 0, .int .i64 1] 3))
  have R9_0 : Hid (Row (w8.alloc (.cells #[.int .i64 0, .int .i64 1] 3)) (.slice (some ⟨w8.heap.size, 0, none⟩) 2 2) (zs [0, 1])) := by
    exact rowZ_lit w8 [0, 1] 2 rfl (by decide)
  have x9_0 := hid (bnext y8.out A9_0.out)
  go_wp2_with fail
  refine (Pi _ _ R9_0.out (HL.out.call x9_0.out)).out.mono ?_; rintro e w9 ⟨⟨ui, rfl, hi⟩, hb9⟩
  have b9 := hid (bnext A9_0.out hb9)
  clear hb9
  have B9 := hid b9.out
  have y9 := hid (bnext y8.out B9.out)
  have Xi := hid hi; obtain ⟨ai, ci, rfl, -⟩ := hi.ex; clear hi
  simp only [List.length_cons, List.length_nil] at Xi ⊢
  go_wp2_with fail
  refine (Pj _ (HL.out.call y9.out)).out.mono ?_; rintro e w10 ⟨rfl, hb10⟩
  have b10 := hid hb10
  clear hb10
  have B10 := hid b10.out
  have y10 := hid (bnext y9.out B10.out)
  go_wp2_with fail
  refine (Pk _ (HL.out.call y10.out)).out.mono ?_; rintro e w11 ⟨rfl, hb11⟩
  have b11 := hid hb11
  clear hb11
  have B11 := hid b11.out
  have y11 := hid (bnext y10.out B11.out)
  go_wp2_with fail
  refine (Pl _ (HL.out.call y11.out)).out.mono ?_; rintro e w12 ⟨rfl, hb12⟩
  have b12 := hid hb12
  clear hb12
  have B12 := hid b12.out
  have y12 := hid (bnext y11.out B12.out)
  go_wp2_with fail
  refine (Pm _ _ (Row.nil _) (HL.out.call y12.out)).out.mono ?_; rintro e w13 ⟨⟨um, rfl, hm⟩, hb13⟩
  have b13 := hid hb13
  clear hb13
  have B13 := hid b13.out
  have y13 := hid (bnext y12.out B13.out)
  obtain ⟨am, cm, rfl, -⟩ := hm.openS; clear hm
  simp only [List.length_nil]
  have A14_0 := hid ((Below.refl _ w13).alloc (Nat.le_refl _) (.cells #[.int .i64 0] 3))
  have R14_0 : Hid (Row (w13.alloc (.cells #[.int .i64 0] 3)) (.slice (some ⟨w13.heap.size, 0, none⟩) 1 1) (zs [0])) := by
    exact rowZ_lit w13 [0] 1 rfl (by decide)
  have x14_0 := hid (bnext y13.out A14_0.out)
  go_wp2_with fail
  refine (Pn _ _ R14_0.out (HL.out.call x14_0.out)).out.mono ?_; rintro e w14 ⟨⟨un, rfl, hn⟩, hb14⟩
  have b14 := hid (bnext A14_0.out hb14)
  clear hb14
  have B14 := hid b14.out
  have y14 := hid (bnext y13.out B14.out)
  obtain ⟨an, cn, rfl, -⟩ := hn.openS; clear hn
  simp only [List.length_nil]
  have A15_0 := hid ((Below.refl _ w14).alloc (Nat.le_refl _) (.cells #[.int .i64 0, .int .i64 1] 3))
  have R15_0 : Hid (Row (w14.alloc (.cells #[.int .i64 0, .int .i64 1] 3)) (.slice (some ⟨w14.heap.size, 0, none⟩) 2 2) (zs [0, 1])) := by
    exact rowZ_lit w14 [0, 1] 2 rfl (by decide)
  have x15_0 := hid (bnext y14.out A15_0.out)
  go_wp2_with fail
  refine (Po _ _ R15_0.out (HL.out.call x15_0.out)).out.mono ?_; rintro e w15 ⟨rfl, hb15⟩
  have b15 := hid (bnext A15_0.out hb15)
  clear hb15
  have Xo := hid (Blk.new w15 #[.bool false, .int .i64 0, .int .i64 0] 48)
  have B15 := hid (bnext b15.out ((Below.refl w15.heap.size w15).alloc (Nat.le_refl _) (.cells #[.bool false, .int .i64 0, .int .i64 0] 48)))
  have y15 := hid (bnext y14.out B15.out)
  have A16_0 := hid ((Below.refl _ (w15.alloc (.cells #[.bool false, .int .i64 0, .int .i64 0] 48))).alloc (Nat.le_refl _) (.cells #[.int .i64 0, .int .i64 1] 3))
  have R16_0 : Hid (Row ((w15.alloc (.cells #[.bool false, .int .i64 0, .int .i64 0] 48)).alloc (.cells #[.int .i64 0, .int .i64 1] 3)) (.slice (some ⟨w15.heap.size + 1, 0, none⟩) 2 2) (zs [0, 1])) := by
    rw [show w15.heap.size + 1 = ((w15.alloc (.cells #[.bool false, .int .i64 0, .int .i64 0] 48))).heap.size by simp]
    exact rowZ_lit (w15.alloc (.cells #[.bool false, .int .i64 0, .int .i64 0] 48)) [0, 1] 2 rfl (by decide)
  have x16_0 := hid (bnext y15.out A16_0.out)
  go_wp2_with fail
  refine (Pp _ _ R16_0.out (HL.out.call x16_0.out)).out.mono ?_; rintro e w16 ⟨⟨up, rfl, hp⟩, hb16⟩
  have b16 := hid (bnext A16_0.out hb16)
  clear hb16
  have B16 := hid b16.out
  have y16 := hid (bnext y15.out B16.out)
  obtain ⟨ap, cp, rfl, -⟩ := hp.ex; clear hp
  simp only [List.length_nil]
  have A17_0 := hid ((Below.refl _ w16).alloc (Nat.le_refl _) (.cells #[.int .i64 1125899906842625] 3))
  have R17_0 : Hid (Row (w16.alloc (.cells #[.int .i64 1125899906842625] 3)) (.slice (some ⟨w16.heap.size, 0, none⟩) 1 1) (zs [1125899906842625])) := by
    exact rowZ_lit w16 [1125899906842625] 1 rfl (by decide)
  have x17_0 := hid (bnext y16.out A17_0.out)
  go_wp2_with fail
  refine (Pq _ _ R17_0.out (HL.out.call x17_0.out)).out.mono ?_; rintro e w17 ⟨⟨uq, rfl, hq⟩, hb17⟩
  have b17 := hid (bnext A17_0.out hb17)
  clear hb17
  have B17 := hid b17.out
  have y17 := hid (bnext y16.out B17.out)
  obtain ⟨aq, cq, rfl, -⟩ := hq.ex; clear hq
  simp only [List.length_nil]
  go_wp2_with fail
  refine (PT _).out.mono ?_; rintro e w18 ⟨rfl, hb18⟩
  have b18 := hid hb18
  clear hb18
  have B18 := hid b18.out
  have y18 := hid (bnext y17.out B18.out)
  go_wp2_with fail
  refine (Pr _ (HL.out.call y18.out)).out.mono ?_; rintro e w19 ⟨rfl, hb19⟩
  have b19 := hid hb19
  clear hb19
  have B19 := hid b19.out
  have y19 := hid (bnext y18.out B19.out)
  have A20 := hid ((Below.refl _ w19).alloc (Nat.le_refl _) (.cells #[.string ⟨#[52]⟩, .string ⟨#[49]⟩] 23))
  have M20 : Hid (Row (w19.alloc (.cells #[.string ⟨#[52]⟩, .string ⟨#[49]⟩] 23)) (.slice (some ⟨w19.heap.size, 0, none⟩) 2 2) (strs [⟨#[52]⟩, ⟨#[49]⟩])) := by
    exact row_lit w19 [⟨#[52]⟩, ⟨#[49]⟩] 2 rfl (by decide)
  have S20 := hid (k_SameS (w19.alloc (.cells #[.string ⟨#[52]⟩, .string ⟨#[49]⟩] 23)) _ _ [⟨#[52]⟩, ⟨#[49]⟩] [⟨#[52]⟩, ⟨#[49]⟩] ((((((((((((((((Xd.out.call B5.out).call B6.out).call B7.out).call B8.out).call B9.out).call B10.out).call B11.out).call B12.out).call B13.out).call B14.out).call B15.out).call B16.out).call B17.out).call B18.out).call B19.out).call A20.out) M20.out)
  rw [decide_eq_true rfl] at S20
  go_wp2_with fail
  refine S20.out.mono ?_; rintro e w20 ⟨rfl, hb20⟩
  have B20 := hid (bnext A20.out hb20)
  clear hb20
  have y20 := hid (bnext y19.out B20.out)
  have Zf := hid ((((((((((((((Xf.out.call B7.out).call B8.out).call B9.out).call B10.out).call B11.out).call B12.out).call B13.out).call B14.out).call B15.out).call B16.out).call B17.out).call B18.out).call B19.out).call B20.out)
  have rf0 := Zf.out.cell 0
  have rf1 := Zf.out.cell 1
  have rf2 := Zf.out.cell 2
  simp at rf0 rf1 rf2
  have Zg := hid (((((((((((((Xg.out.call B8.out).call B9.out).call B10.out).call B11.out).call B12.out).call B13.out).call B14.out).call B15.out).call B16.out).call B17.out).call B18.out).call B19.out).call B20.out)
  have rg0 := Zg.out.cell 0
  have rg1 := Zg.out.cell 1
  have rg2 := Zg.out.cell 2
  simp at rg0 rg1 rg2
  have A21 := hid ((Below.refl _ w20).alloc (Nat.le_refl _) (.cells #[.string ⟨#[48]⟩, .string ⟨#[49, 47, 52]⟩, .string ⟨#[49]⟩, .string ⟨#[51, 47, 52]⟩] 41))
  have M21 : Hid (MRow (w20.alloc (.cells #[.string ⟨#[48]⟩, .string ⟨#[49, 47, 52]⟩, .string ⟨#[49]⟩, .string ⟨#[51, 47, 52]⟩] 41)) (.slice (some ⟨w20.heap.size, 0, none⟩) 2 2) [(⟨#[48]⟩, ⟨#[49, 47, 52]⟩), (⟨#[49]⟩, ⟨#[51, 47, 52]⟩)]) := by
    exact mrow_lit w20 [(⟨#[48]⟩, ⟨#[49, 47, 52]⟩), (⟨#[49]⟩, ⟨#[51, 47, 52]⟩)] 2 rfl (by decide)
  have S21 := hid (k_SameM (w20.alloc (.cells #[.string ⟨#[48]⟩, .string ⟨#[49, 47, 52]⟩, .string ⟨#[49]⟩, .string ⟨#[51, 47, 52]⟩] 41)) _ _ [(⟨#[48]⟩, ⟨#[49, 47, 52]⟩), (⟨#[49]⟩, ⟨#[51, 47, 52]⟩)] [(⟨#[48]⟩, ⟨#[49, 47, 52]⟩), (⟨#[49]⟩, ⟨#[51, 47, 52]⟩)] (((((((((((((Xh.out.call B9.out).call B10.out).call B11.out).call B12.out).call B13.out).call B14.out).call B15.out).call B16.out).call B17.out).call B18.out).call B19.out).call B20.out).call A21.out) M21.out)
  rw [decide_eq_true rfl] at S21
  go_wp2_with fail
  refine S21.out.mono ?_; rintro e w21 ⟨rfl, hb21⟩
  have B21 := hid (bnext A21.out hb21)
  clear hb21
  have y21 := hid (bnext y20.out B21.out)
  have A22 := hid ((Below.refl _ w21).alloc (Nat.le_refl _) (.cells #[.string ⟨#[49]⟩, .string ⟨#[49, 47, 50]⟩, .string ⟨#[108, 97, 116, 101]⟩, .string ⟨#[49, 47, 50]⟩] 41))
  have M22 : Hid (MRow (w21.alloc (.cells #[.string ⟨#[49]⟩, .string ⟨#[49, 47, 50]⟩, .string ⟨#[108, 97, 116, 101]⟩, .string ⟨#[49, 47, 50]⟩] 41)) (.slice (some ⟨w21.heap.size, 0, none⟩) 2 2) [(⟨#[49]⟩, ⟨#[49, 47, 50]⟩), (⟨#[108, 97, 116, 101]⟩, ⟨#[49, 47, 50]⟩)]) := by
    exact mrow_lit w21 [(⟨#[49]⟩, ⟨#[49, 47, 50]⟩), (⟨#[108, 97, 116, 101]⟩, ⟨#[49, 47, 50]⟩)] 2 rfl (by decide)
  have S22 := hid (k_SameM (w21.alloc (.cells #[.string ⟨#[49]⟩, .string ⟨#[49, 47, 50]⟩, .string ⟨#[108, 97, 116, 101]⟩, .string ⟨#[49, 47, 50]⟩] 41)) _ _ [(⟨#[49]⟩, ⟨#[49, 47, 50]⟩), (⟨#[108, 97, 116, 101]⟩, ⟨#[49, 47, 50]⟩)] [(⟨#[49]⟩, ⟨#[49, 47, 50]⟩), (⟨#[108, 97, 116, 101]⟩, ⟨#[49, 47, 50]⟩)] (((((((((((((Xi.out.call B10.out).call B11.out).call B12.out).call B13.out).call B14.out).call B15.out).call B16.out).call B17.out).call B18.out).call B19.out).call B20.out).call B21.out).call A22.out) M22.out)
  rw [decide_eq_true rfl] at S22
  go_wp2_with fail
  refine S22.out.mono ?_; rintro e w22 ⟨rfl, hb22⟩
  have B22 := hid (bnext A22.out hb22)
  clear hb22
  have y22 := hid (bnext y21.out B22.out)
  go_wp2_with fail
  go_ret
  exact ⟨rfl, y22.out⟩
end Go.Proofs.YtpehhgkghgbhiaaGreatDoor
