/- ChooseOrder: the row and the tied card: for every input the law answers true; conditions: none beyond the row's own. -/
import Derived.Test.YtpehhgkghgbhiaaGreatDoorKf10
import Derived.Deep.DeepCutAuto
import Derived.Deep.QuietTactic
import Derived.BigQuiet
namespace Go.Proofs.YtpehhgkghgbhiaaGreatDoor
open Go.RowKit Go.Shelf
open Go.Lib (decDigits nDigits)
set_option linter.unusedVariables false

/-- Two probabilities of one distribution. -/
theorem same_cmp {a b S : Nat} (hS : S ≠ 0) (da : nDigits a ≤ 1000) (db : nDigits b ≤ 1000) (dS : nDigits S ≤ 1000) : (b ≤ a → 0 ≤ cmB (shB a S) (shB b S)) ∧ (a = b → cmB (shB a S) (shB b S) = 0) := by
  have f1 : Dig 1000 (mkRat (a : Int) S) := dig_frac hS (by simpa using da) dS
  have f2 : Dig 1000 (mkRat (b : Int) S) := dig_frac hS (by simpa using db) dS
  rw [shB_tx hS (by omega) (by omega), shB_tx hS (by omega) (by omega), (cm_txt (f1.fits (by omega) (by omega)) (f2.fits (by omega) (by omega))).1, ordQ_mk hS hS]
  constructor
  · intro h
    have := Int.ofNat_le.2 (Nat.mul_le_mul_right S h)
    rw [Int.natCast_mul, Int.natCast_mul] at this
    unfold sgnZ
    split
    · omega
    · rw [if_neg (by omega)]; omega
  · rintro rfl
    rw [Int.sub_self]; rfl

/-- A sum that goes on. -/
theorem add_same {a b S : Nat} (hS : S ≠ 0) (da : nDigits a ≤ 1000) (db : nDigits b ≤ 1000) (dS : nDigits S ≤ 1000) : op2B (· + ·) (txQ (mkRat (a : Int) S)) (shB b S) = txQ (mkRat ((a + b : Nat) : Int) S) ∧ (txQ (mkRat (a : Int) S)).size ≤ 10000 := by
  have f1 : Dig 1000 (mkRat (a : Int) S) := dig_frac hS (by simpa using da) dS
  have f2 : Dig 1000 (mkRat (b : Int) S) := dig_frac hS (by simpa using db) dS
  have e : mkRat (a : Int) S + mkRat (b : Int) S = mkRat ((a + b : Nat) : Int) S := by rw [mk_add_same hS, Int.natCast_add]
  have f3 : Dig 1001 (mkRat ((a + b : Nat) : Int) S) := dig_frac hS (by rw [Int.natAbs_natCast]; exact nd_add da db) (by omega)
  rw [shB_tx hS (by omega) (by omega), ← e]
  refine ⟨(op2_txt (f1.fits (by omega) (by omega)) (f2.fits (by omega) (by omega)) ?_).1, tx_size (f1.fits (by omega) (by omega))⟩
  show ¬ ovQ (mkRat (a : Int) S + mkRat (b : Int) S)
  rw [e]
  exact f3.fits (by omega) (by omega)
theorem tot_first (S : Nat) : txQ (mkRat ((0 : Nat) : Int) S) = ⟨#[48]⟩ := by
  have e : mkRat ((0 : Nat) : Int) S = mkRat ((0 : Nat) : Int) 1 := by simp
  rw [e, ← numB_tx, numB_zero]
theorem tot_one {S : Nat} (hS : S ≠ 0) : txQ (mkRat (S : Int) S) = ⟨#[49]⟩ := by
  have e : mkRat (S : Int) S = mkRat ((1 : Nat) : Int) 1 := by
    have := Rat.mkRat_mul_right (n := 1) (d := 1) hS
    simpa using this
  rw [e, ← numB_tx, numB_one]

theorem shB_scale {a b c : Nat} (hc : c ≠ 0) : shB (a * c) (b * c) = shB a b := by
  unfold shB
  rw [qmk_nat, qmk_nat, Int.natCast_mul, Rat.mkRat_mul_right hc]
theorem exL_scl {ws : List Nat} {c : Nat} (hc : c ≠ 0) (S : Nat) : ∀ N, exL (scl c ws) (S * c) N = exL ws S N
  | 0 => rfl
  | N + 1 => by
    have e : (scl c ws).getD N 0 = ws.getD N 0 * c := by
      unfold scl
      rw [List.getD_eq_getElem?_getD, List.getElem?_map, List.getD_eq_getElem?_getD]
      cases ws[N]? <;> simp
    unfold exL
    rw [exL_scl hc S N, e, shB_scale hc]
    by_cases h : ws.getD N 0 = 0
    · rw [h, Nat.zero_mul]
    · rw [if_pos h, if_pos (Nat.mul_ne_zero h hc)]

theorem scl_shift {n d B : Nat} {us : List Int} {s : Nat} (h : ∀ u ∈ us, -(B : Int) ≤ u ∧ u + (s : Int) ≤ (B : Int)) : scl (d ^ s) (cwL n d B (us.map (· + (s : Int)))) = scl (n ^ s) (cwL n d B us) := by
  unfold scl cwL
  rw [List.map_map, List.map_map, List.map_map]
  refine List.map_congr_left fun u hu => ?_
  have := h u hu
  exact cw_shift (by omega) (by omega) (by omega)

theorem ex_same {ws vs : List Nat} {c e : Nat} (hc : c ≠ 0) (he : e ≠ 0) (h : scl c ws = scl e vs) (hl : ws.length = vs.length) : exL ws ws.sum ws.length = exL vs vs.sum vs.length := by
  rw [← exL_scl hc ws.sum, ← exL_scl he vs.sum, ← sum_scl, ← sum_scl, h, hl]

/-- Shifted utilities, none of them clamped, have the same distribution. -/
theorem ex_shift {us : List Int} {s : ByteArray} {B : Int} {sh : Int} (h : cwE us s B = 0) (hb : B ≤ 1000) (hf : ∀ u ∈ us, (-B ≤ u + sh ∧ u + sh ≤ B) ∧ -B ≤ u ∧ u ≤ B) :
    cwE (us.map (· + sh)) s B = 0 ∧ exR (cwR (us.map (· + sh)) s B) = exR (cwR us s B) := by
  obtain ⟨h1, h2, h3, h4, h5, h6⟩ := cwE_ok h
  have hw : (us.map (· + sh)).any wildB = false := by
    rw [List.any_eq_false]
    intro x hx
    obtain ⟨u, hu, rfl⟩ := List.mem_map.1 hx
    have := hf u hu
    unfold wildB
    simp
    omega
  have hE : cwE (us.map (· + sh)) s B = 0 := by
    unfold cwE
    rw [hw, List.length_map, if_neg (by rintro (h | h); omega; cases h), h4, if_neg (by simp), if_neg (by omega)]
  refine ⟨hE, ?_⟩
  obtain ⟨ok, eB⟩ := cw_good h
  rw [(ex_good hE).1, (ex_good h).1, List.length_map]
  have e1 : (cwV (us.map (· + sh)) s B).length = us.length := by rw [cwV_len, List.length_map]
  have e2 := cwV_len us s B
  obtain ⟨b, hb'⟩ : ∃ b, B.toNat = b := ⟨_, rfl⟩
  have hBb : B = (b : Int) := by omega
  have hn : (vQ s).num.natAbs ≠ 0 := by have := ok.ok.d1; have := ok.ok.le; omega
  have hd : (vQ s).den ≠ 0 := by have := ok.ok.d1; omega
  have pw : ∀ {x k : Nat}, x ≠ 0 → x ^ k ≠ 0 := fun hx => Nat.ne_of_gt (Nat.pow_pos (Nat.pos_of_ne_zero hx))
  congr 1
  rw [← e2]
  conv => lhs; rw [show (cwV us s B).length = (cwV (us.map (· + sh)) s B).length by rw [e1, e2]]
  unfold cwV at *
  rw [hb'] at *
  rcases Int.lt_or_le sh 0 with hs | hs
  · obtain ⟨k, rfl⟩ : ∃ k : Nat, sh = -(k : Int) := ⟨sh.natAbs, by omega⟩
    have key := scl_shift (n := (vQ s).num.natAbs) (d := (vQ s).den) (B := b) (us := us.map (· + -(k : Int))) (s := k) (fun x hx => by
      obtain ⟨u, hu, rfl⟩ := List.mem_map.1 hx
      have := hf u hu
      omega)
    have em : (us.map (· + -(k : Int))).map (· + (k : Int)) = us := by
      rw [List.map_map]
      conv => rhs; rw [← List.map_id us]
      refine List.map_congr_left fun u _ => ?_
      show u + -(k : Int) + k = u
      omega
    rw [em] at key
    exact ex_same (pw hn) (pw hd) key.symm (by unfold cwL; simp)
  · obtain ⟨k, rfl⟩ : ∃ k : Nat, sh = (k : Int) := ⟨sh.toNat, by omega⟩
    have key := scl_shift (n := (vQ s).num.natAbs) (d := (vQ s).den) (B := b) (us := us) (s := k) (fun u hu => by
      have := hf u hu
      omega)
    exact ex_same (pw hd) (pw hn) key (by unfold cwL; simp)
end Go.Proofs.YtpehhgkghgbhiaaGreatDoor

/- Walks: law22.ChooseOrder. -/
namespace Go.Proofs.YtpehhgkghgbhiaaGreatDoor
open Go.RowKit Go.Shelf
open Go.Lib (decDigits nDigits)
set_option linter.unusedVariables false
set_option linter.unusedSimpArgs false

set_option maxRecDepth 100000 in
set_option maxHeartbeats 4000000 in
theorem co_over (w : World) (v : Value) (us : List Int) (s : ByteArray) (B sh : Int) (hv : Row w v (zs us)) (hs : s.size ≤ 9223372036854775807) (hL : Lay w)
    (h : 12 < us.length ∨ 10 < s.size ∨ 20 < B) :
    Calls Tryz.prog 4 #[v, .string s, .int .i64 B, .int .i64 sh] w fun e w' => e = .returned (.bool true) ∧ Below w.heap.size w w' := by
  have HLV := hid (w_lives w hL)
  obtain ⟨a, c, rfl, c1, c2, -⟩ := hv.openZ
  obtain ⟨N, hN⟩ : ∃ N, us.length = N := ⟨_, rfl⟩
  rw [hN] at c1 h ⊢
  obtain ⟨b1, k1⟩ : ∃ b, decide ((12 : Int) < (N : Int)) = b := ⟨_, rfl⟩
  obtain ⟨b3, k3⟩ : ∃ b, decide ((10 : Int) < (s.size : Int)) = b := ⟨_, rfl⟩
  obtain ⟨b4, k4⟩ : ∃ b, decide (20 < B) = b := ⟨_, rfl⟩
  have k5 : (b1 || b3 || b4) = true := by
    rw [← k1, ← k3, ← k4]
    simp only [Bool.or_eq_true, decide_eq_true_eq]
    omega
  clear hv hL hN h
  cases b1
  · cases b3
    · obtain rfl : b4 = true := by simpa using k5
      clear k5
      go_enter Tryz.func4, Tryz.ntmps4
      go_wp2_with fail
      refine HLV.out.mono ?_; rintro e w1 ⟨rfl, hb1⟩
      have y1 := hid hb1; clear hb1
      go_wp2_with fail
      go_ret
      exact ⟨rfl, y1.out⟩
    · clear k4 k5
      go_enter Tryz.func4, Tryz.ntmps4
      go_wp2_with fail
      refine HLV.out.mono ?_; rintro e w1 ⟨rfl, hb1⟩
      have y1 := hid hb1; clear hb1
      go_wp2_with fail
      go_ret
      exact ⟨rfl, y1.out⟩
  · clear k3 k4 k5
    go_enter Tryz.func4, Tryz.ntmps4
    go_wp2_with fail
    refine HLV.out.mono ?_; rintro e w1 ⟨rfl, hb1⟩
    have y1 := hid hb1; clear hb1
    go_wp2_with fail
    go_ret
    exact ⟨rfl, y1.out⟩

set_option maxRecDepth 100000 in
set_option maxHeartbeats 4000000 in
theorem co_err (w : World) (v : Value) (us : List Int) (s : ByteArray) (B sh : Int) (hv : Row w v (zs us)) (hL : Lay w)
    (h1 : us.length ≤ 12) (h3 : s.size ≤ 10) (h4 : B ≤ 20) (he : cwE us s B ≠ 0) :
    Calls Tryz.prog 4 #[v, .string s, .int .i64 B, .int .i64 sh] w fun e w' => e = .returned (.bool true) ∧ Below w.heap.size w w' := by
  have HLV := hid (w_lives w hL)
  have PE := fun V hV hLV => hid (ch_Exact V v us s B hV (by omega) hLV)
  have HV := hid hv; have HL := hid hL
  rw [ex_bad he] at PE
  obtain ⟨a, c, rfl, c1, c2, -⟩ := hv.openZ
  obtain ⟨N, hN⟩ : ∃ N, us.length = N := ⟨_, rfl⟩
  obtain ⟨z, hz⟩ : ∃ z, cwE us s B = z := ⟨_, rfl⟩
  rw [hz] at PE he
  rw [hN] at c1 h1 HV PE ⊢
  have k1 : decide ((12 : Int) < (N : Int)) = false := by simp; omega
  have k3 : decide ((10 : Int) < (s.size : Int)) = false := by simp; omega
  have k4 : decide (20 < B) = false := by simp; omega
  have q0 : (z != 0) = true := by simpa using he
  clear hv hL hN hz h3 he
  go_enter Tryz.func4, Tryz.ntmps4
  go_wp2_with fail
  refine HLV.out.mono ?_; rintro e w1 ⟨rfl, hb1⟩
  have y1 := hid hb1; clear hb1
  go_wp2_with fail
  refine (PE _ (HV.out.call y1.out) (HL.out.call y1.out)).out.mono ?_; rintro e w2 ⟨⟨x1, rfl, hx1⟩, hb2⟩
  obtain ⟨a1, d1, rfl⟩ := hx1.openM
  have y2 := hid (bnext y1.out hb2)
  clear hb2 hx1
  go_wp2_with fail
  go_ret
  exact ⟨rfl, y2.out⟩

/-- Whether no utility is clamped, as far as they have come. -/
def freeB (B sh : Int) (us : List Int) : Bool := us.all fun u => decide (-B ≤ u + sh) && decide (u + sh ≤ B) && decide (-B ≤ u) && decide (u ≤ B)
theorem freeB_snoc (B sh : Int) (us : List Int) (u : Int) : freeB B sh (us ++ [u]) = (freeB B sh us && (decide (-B ≤ u + sh) && decide (u + sh ≤ B) && decide (-B ≤ u) && decide (u ≤ B))) := by
  unfold freeB
  rw [List.all_append]
  simp
theorem freeB_all {B sh : Int} {us : List Int} (h : freeB B sh us = true) : ∀ u ∈ us, (-B ≤ u + sh ∧ u + sh ≤ B) ∧ -B ≤ u ∧ u ≤ B := fun u hu => by
  have := List.all_eq_true.1 h u hu
  simp only [Bool.and_eq_true, decide_eq_true_eq] at this
  exact ⟨this.1.1, this.1.2, this.2⟩

set_option maxRecDepth 100000 in
set_option maxHeartbeats 8000000 in
theorem co_main (w : World) (v : Value) (us : List Int) (s : ByteArray) (b : Nat) (shv : Int) (hv : Row w v (zs us)) (hs1 : -9223372036854775808 ≤ shv) (hs2 : shv ≤ 9223372036854775807) (hL : Lay w)
    (h1 : us.length ≤ 12) (h3 : s.size ≤ 10) (h4 : b ≤ 20) (he : cwE us s (b : Nat) = 0) :
    Calls Tryz.prog 4 #[v, .string s, .int .i64 (b : Nat), .int .i64 shv] w fun e w' => e = .returned (.bool true) ∧ Below w.heap.size w w' := by
  have HLV := hid (w_lives w hL)
  have PE := fun V x l hV hLV => hid (ch_Exact V x l s (b : Nat) hV (by omega) hLV)
  have HV := hid hv; have HL := hid hL
  obtain ⟨i0, hi, hz0, hz1, hz2⟩ := info_parts info_int
  obtain ⟨eL, nL, vL, gL, pL⟩ := ex_good he
  obtain ⟨ok, -⟩ := cw_good he
  obtain ⟨o1, o2, o3, -, -, -⟩ := cwE_ok he
  have SHF := hid fun sh (hf : freeB (b : Nat) sh us = true) => ex_shift (sh := sh) he (by omega) (freeB_all hf)
  have WB : Hid (∀ u ∈ us, -1125899906842624 ≤ u ∧ u ≤ 1125899906842624) := fun u hu => by
    have : wildB u = false := by
      cases hc : wildB u
      · rfl
      · rw [List.any_eq_true.2 ⟨u, hu, hc⟩] at o3; cases o3
    unfold wildB at this
    simp only [Bool.or_eq_false_iff, decide_eq_false_iff_not] at this
    omega
  have P0 := fun V hV hLV => PE V v us hV hLV
  rw [he] at P0
  obtain ⟨S, hS⟩ : ∃ S, (cwV us s (b : Nat)).sum = S := ⟨_, rfl⟩
  rw [Int.toNat_natCast] at vL ok
  rw [hS] at vL gL pL
  have fit := ok.ok.fits
  have mono := fun u v (h : u ≤ v) => cw_mono ok.ok h
  obtain ⟨n, hn⟩ : ∃ n, (vQ s).num.natAbs = n := ⟨_, rfl⟩
  obtain ⟨d, hd⟩ : ∃ d, (vQ s).den = d := ⟨_, rfl⟩
  rw [hn, hd] at vL fit mono
  have PREG : Hid (∀ i u, us[i]? = some u → pre (cwV us s (b : Nat)) (i + 1) = pre (cwV us s (b : Nat)) i + cwN n d b u) := fun i u hu => by
    refine pre_succ ?_
    unfold cwV cwL
    rw [List.getElem?_map, hu, hn, hd, Int.toNat_natCast]; rfl
  have PRED : Hid (∀ i, nDigits (pre (cwV us s (b : Nat)) i) ≤ 1000) := fun i => by
    have := nd_pre (ws := cwV us s (b : Nat)) i (by rw [hS]; exact gL)
    show _ ≤ _
    omega
  have PREA : Hid (pre (cwV us s (b : Nat)) us.length = S) := by show _ = _; rw [pre_all (by rw [cwV_len]; exact Nat.le_refl _), hS]
  obtain ⟨L, hLL⟩ : ∃ L, exR (cwR us s (b : Nat)) = L := ⟨_, rfl⟩
  rw [hLL] at P0 vL nL SHF
  have TOT := hid fun i u (hu : us[i]? = some u) => add_same (a := pre (cwV us s (b : Nat)) i) (b := cwN n d b u) pL (PRED.out i) (by have := fit u; omega) (by omega)
  have CMP := hid fun u k => same_cmp (a := cwN n d b u) (b := cwN n d b k) pL (by have := fit u; omega) (by have := fit k; omega) (by omega)
  obtain ⟨a, c, rfl, c1, c2, -⟩ := hv.openZ
  obtain ⟨N, hN⟩ : ∃ N, us.length = N := ⟨_, rfl⟩
  have HN := hid hN
  rw [hN] at c1 h1 HV P0 PREA nL ⊢
  have k1 : decide ((12 : Int) < (N : Int)) = false := by simp; omega
  have k3 : decide ((10 : Int) < (s.size : Int)) = false := by simp; omega
  have k4 : decide ((20 : Int) < (b : Int)) = false := by simp; omega
  have VL := hid vL; have MONO := hid mono; have NL := hid nL; have PL := hid pL
  have PZ : Hid (pre (cwV us s (b : Nat)) 0 = 0) := pre_zero _
  obtain ⟨p, hp⟩ : ∃ f, pre (cwV us s (b : Nat)) = f := ⟨_, rfl⟩
  rw [hp] at PREG PRED PREA TOT PZ
  clear hv hL hN h3 eL nL vL gL pL ok o1 o2 o3 fit mono hn hd hS hLL he hp
  go_enter Tryz.func4, Tryz.ntmps4
  go_wp2_with fail
  refine HLV.out.mono ?_; rintro e w1 ⟨rfl, hb1⟩
  have y1 := hid hb1; clear hb1
  go_wp2_with fail
  refine (P0 _ (HV.out.call y1.out) (HL.out.call y1.out)).out.mono ?_; rintro e w2 ⟨⟨x1, rfl, hx1⟩, hb2⟩
  have M1 := hid hx1
  obtain ⟨a1, d1, rfl⟩ := hx1.openM
  have y2 := hid (bnext y1.out hb2)
  rw [NL.out] at M1 ⊢
  clear hb2 hx1
  obtain ⟨j, hj, PK⟩ := k_Pick w2 shv 9 (by omega) (by omega) hs1 hs2
  have PK := hid PK
  obtain ⟨sh, hsh⟩ : ∃ sh : Int, (j : Int) - 4 = sh := ⟨_, rfl⟩
  have sh1 : -4 ≤ sh := by omega
  have sh2 : sh ≤ 4 := by omega
  have wsh : IntKind.i64.wrap ((j : Int) - 4) = sh := by rw [hsh, IntWalk.i64_in _ ⟨by omega, by omega⟩]
  go_wp2_with fail
  refine PK.out.mono ?_; rintro e w2' ⟨rfl, rfl⟩
  go_wp2_with fail
  clear wsh
  go_loopw [11, 12, 13, 14] (fun s11 s12 s13 s14 wr => ∃ i : Nat, s14 = .int .i64 i ∧ i ≤ N ∧ s11 = .string (txQ (mkRat ((p i : Nat) : Int) S)) ∧ s12 = .bool (freeB (b : Nat) sh (us.take i)) ∧ Hid (wr.ownsRow w2.heap.size 3 1 s13 i (zs ((us.map (· + sh)).take i))) ∧ Hid (Below w2.heap.size w2 wr)) (fun s11 s12 s13 s14 wr => N - (intOf s14).toNat)
  case atStart => exact ⟨0, rfl, Nat.zero_le _, by rw [PZ.out, tot_first], rfl, World.ownsRow_nil _ _ _ _, Below.refl _ _⟩
  case round =>
    obtain ⟨i, rfl, hi', rfl, rfl, hO, hB⟩ := hrel
    have wi : IntKind.i64.wrap ((i : Int) + 1) = ((i + 1 : Nat) : Int) := by rw [IntWalk.i64_in _ ⟨by omega, by omega⟩]; omega
    by_cases hlt : i < N
    · obtain ⟨u, hu⟩ : ∃ x, us[i]? = some x := ⟨_, List.getElem?_eq_getElem (by rw [HN.out]; exact hlt)⟩
      obtain ⟨g, o, rfl, hg, hc⟩ := HV.out.at (zs_get hu)
      have hub := WB.out u (List.mem_of_getElem? hu)
      have hub1 := hub.1; have hub2 := hub.2
      have HUU := hid hu
      have vi := VL.out i u hu
      have ti := (TOT.out i u hu).1
      have tz := (TOT.out i u hu).2
      have pi := PREG.out i u hu
      rw [← pi] at ti
      have hFS : Hid (freeB (b : Nat) sh (us.take (i + 1)) = (freeB (b : Nat) sh (us.take i) && (decide (-((b : Nat) : Int) ≤ u + sh) && decide (u + sh ≤ (b : Nat)) && decide (-((b : Nat) : Int) ≤ u) && decide (u ≤ (b : Nat))))) := by
        show _ = _
        rw [List.take_add_one, hu, Option.toList_some, freeB_snoc]
      have hR : (us.map (· + sh))[i]? = some (u + sh) := by rw [List.getElem?_map, hu]; rfl
      have PI := fun V => hid (r2_Int V i (by omega))
      have Q1 := fun V (h : MRow V (.slice a1 N d1) L) => hid (w_value V _ L (numB i) h)
      rw [vi] at Q1
      obtain ⟨T0, hT0⟩ : ∃ z, txQ (mkRat ((p i : Nat) : Int) S) = z := ⟨_, rfl⟩
      obtain ⟨T1, hT1⟩ : ∃ z, txQ (mkRat ((p (i + 1) : Nat) : Int) S) = z := ⟨_, rfl⟩
      obtain ⟨X, hX⟩ : ∃ z, shB (cwN n d b u) S = z := ⟨_, rfl⟩
      obtain ⟨I0, hI0⟩ : ∃ z, numB i = z := ⟨_, rfl⟩
      obtain ⟨fr, hfr⟩ : ∃ z, freeB (b : Nat) sh (us.take i) = z := ⟨_, rfl⟩
      have sx : X.size ≤ 10000 := by rw [← hX]; exact shB_size10 _ _
      rw [hT0, hT1, hX] at ti
      rw [hT0] at tz ⊢
      rw [hX, hI0] at Q1
      rw [hI0] at PI
      rw [hfr] at hFS ⊢
      have HT1 := hid hT1; have HX := hid hX
      have PA := fun V => hid (r2_Add V T0 X (by omega) (by omega))
      rw [ti] at PA
      obtain ⟨oe, ho⟩ : ∃ z, op2E (· + ·) T0 X = z := ⟨_, rfl⟩
      rw [ho] at PA
      have KK : Hid (∀ W, Below w2.heap.size w2 W → W.cell? ⟨g, o + i, none⟩ = some (.int .i64 u)) := fun W hW => ((bnext y2.out hW).cell (p := ⟨g, o + i, none⟩) hg).trans hc
      have HR := hid hR
      clear hu hub vi ti pi hT0 hT1 hX hI0 hfr ho hR hc
      go_wp2_with fail
      refine (PI _).out.mono ?_; rintro e w5 ⟨rfl, rfl⟩
      go_wp2_with fail
      refine (Q1 _ (M1.out.call hB.out)).out.mono ?_; rintro e w5 ⟨rfl, rfl⟩
      go_wp2_with fail
      refine (PA _).out.mono ?_; rintro e w6 ⟨rfl, hb6⟩
      have y6 := hid (bnext hB.out hb6); have O6 := hid (owns_call hO.out hb6)
      clear hb6
      go_wp2_with fail
      go_loopw [16] (fun s16 wq => ∃ k : Nat, s16 = .int .i64 k ∧ k ≤ N ∧ Hid (Below w6.heap.size w6 wq)) (fun s16 wq => N - (intOf s16).toNat)
      case atStart => exact ⟨0, rfl, Nat.zero_le _, Below.refl _ _⟩
      case round =>
        obtain ⟨k, rfl, hk', hB2⟩ := hrel
        have wk : IntKind.i64.wrap ((k : Int) + 1) = ((k + 1 : Nat) : Int) := by rw [IntWalk.i64_in _ ⟨by omega, by omega⟩]; omega
        have c1' : (0 : Int) ≤ (i : Int) := by omega
        have c2' : (i : Int) < (N : Int) := by omega
        by_cases hk : k < N
        · obtain ⟨u2, hu2⟩ : ∃ x, us[k]? = some x := ⟨_, List.getElem?_eq_getElem (by rw [HN.out]; exact hk)⟩
          obtain ⟨g', o', e', hg', hc'⟩ := HV.out.at (zs_get hu2)
          simp only [Option.some.injEq, Addr.mk.injEq] at e'
          obtain ⟨rfl, rfl, -⟩ := e'
          have v2 := VL.out k u2 hu2
          have PI2 := fun V => hid (r2_Int V k (by omega))
          have Q2 := fun V (h : MRow V (.slice a1 N d1) L) => hid (w_value V _ L (numB k) h)
          rw [v2] at Q2
          have cmp := CMP.out u u2
          have mo := MONO.out
          obtain ⟨Y, hY⟩ : ∃ z, shB (cwN n d b u2) S = z := ⟨_, rfl⟩
          obtain ⟨K0, hK0⟩ : ∃ z, numB k = z := ⟨_, rfl⟩
          have sy : Y.size ≤ 10000 := by rw [← hY]; exact shB_size10 _ _
          rw [hK0] at PI2
          rw [hY, hK0] at Q2
          rw [HX.out, hY] at cmp
          have PC := fun V => hid (r2_Cmp V X Y (by omega) (by omega))
          obtain ⟨ce, hce⟩ : ∃ z, cmE X Y = z := ⟨_, rfl⟩
          obtain ⟨cb, hcb⟩ : ∃ z, cmB X Y = z := ⟨_, rfl⟩
          rw [hce, hcb] at PC
          rw [hcb] at cmp
          have hgt : u2 < u → 0 ≤ cb := fun h => cmp.1 (mo u2 u (by omega))
          have heq : u = u2 → cb = 0 := fun h => cmp.2 (by rw [h])
          have B26 := hid (bnext y6.out hB2.out)
          have m1 := KK.out _ B26.out
          have m2 := ((bnext y2.out B26.out).cell (p := ⟨g, o + k, none⟩) hg').trans hc'
          have b1 : (0 : Int) ≤ (k : Int) := by omega
          have b2 : (k : Int) < (N : Int) := by omega
          clear hu2 hc' hg' v2 cmp mo hY hK0 hce hcb
          go_wp2_with fail
          refine (PI2 _).out.mono ?_; rintro e w5 ⟨rfl, rfl⟩
          go_wp2_with fail
          refine (Q2 _ (M1.out.call B26.out)).out.mono ?_; rintro e w5 ⟨rfl, rfl⟩
          go_wp2_with fail
          refine (PC _).out.mono ?_; rintro e w7 ⟨rfl, hb7⟩
          have y7 := hid (bnext hB2.out hb7)
          have m3 := (hb7.cell (p := ⟨g, o + i, none⟩) (cell_lt m1)).trans m1
          have m4 := (hb7.cell (p := ⟨g, o + k, none⟩) (cell_lt m2)).trans m2
          clear hb7 m1 m2
          rcases Int.lt_trichotomy u2 u with h | h | h
          · have t0 : decide (u2 < u) = true := by simpa using h
            have t1 : decide (cb < 0) = false := by have := hgt h; simp; omega
            have t2 : (u == u2) = false := by rw [beq_eq_false_iff_ne]; omega
            clear hgt heq h
            go_wp2_with fail
            go_quiet (fail)
            go_wp2_with fail
            go_roundw
            case rel => exact ⟨k + 1, by go_num, by omega, below_drewN y7.out _⟩
            case measure => simp [intOf] <;> omega
          · have t0 : decide (u2 < u) = false := by simp; omega
            have t1 : (cb != 0) = false := by have := heq h.symm; simp; omega
            have t2 : (u == u2) = true := by rw [beq_iff_eq]; exact h.symm
            clear hgt heq h
            go_wp2_with fail
            go_quiet (fail)
            go_wp2_with fail
            go_roundw
            case rel => exact ⟨k + 1, by go_num, by omega, below_drewN y7.out _⟩
            case measure => simp [intOf] <;> omega
          · have t0 : decide (u2 < u) = false := by simp; omega
            have t2 : (u == u2) = false := by rw [beq_eq_false_iff_ne]; omega
            clear hgt heq h
            go_wp2_with fail
            go_quiet (fail)
            go_wp2_with fail
            go_roundw
            case rel => exact ⟨k + 1, by go_num, by omega, below_drewN y7.out _⟩
            case measure => simp [intOf] <;> omega
        · obtain rfl : k = N := by omega
          have B7 := hid (bnext y6.out hB2.out)
          have O7 := hid (owns_call O6.out hB2.out)
          have m1 := KK.out _ B7.out
          have wu : IntKind.i64.wrap (u + sh) = u + sh := IntWalk.i64_in _ ⟨by omega, by omega⟩
          have wb : IntKind.i64.wrap (-(b : Int)) = -(b : Int) := IntWalk.i64_in _ ⟨by omega, by omega⟩
          have LE := hid (show w2.heap.size ≤ wr.heap.size from B7.out.size)
          clear hk wk
          go_upto_region 24 with fail
          go_cut [12] (fun s12 wx => ∃ f : Bool, s12 = .bool f ∧ Hid (f = (fr && (decide (-((b : Nat) : Int) ≤ u + sh) && decide (u + sh ≤ (b : Nat)) && decide (-((b : Nat) : Int) ≤ u) && decide (u ≤ (b : Nat))))) ∧ Hid (wr = wx))
          case first =>
            obtain ⟨e1, k1⟩ : ∃ z, decide (-((b : Nat) : Int) ≤ u + sh) = z := ⟨_, rfl⟩
            obtain ⟨e2, k2⟩ : ∃ z, decide (u + sh ≤ ((b : Nat) : Int)) = z := ⟨_, rfl⟩
            obtain ⟨e3, k3⟩ : ∃ z, decide (-((b : Nat) : Int) ≤ u) = z := ⟨_, rfl⟩
            obtain ⟨e4, k4⟩ : ∃ z, decide (u ≤ ((b : Nat) : Int)) = z := ⟨_, rfl⟩
            cases fr
            · go_wp2_with fail
              go_meet
              exact ⟨_, rfl, rfl, rfl⟩
            · cases e1
              · go_wp2_with fail
                go_meet
                exact ⟨_, rfl, by show _ = _; rw [k1]; rfl, rfl⟩
              · cases e2
                · go_wp2_with fail
                  go_meet
                  exact ⟨_, rfl, by show _ = _; rw [k1, k2]; rfl, rfl⟩
                · cases e3
                  · go_wp2_with fail
                    go_meet
                    exact ⟨_, rfl, by show _ = _; rw [k1, k2, k3]; rfl, rfl⟩
                  · go_wp2_with fail
                    go_meet
                    exact ⟨_, rfl, by show _ = _; rw [k1, k2, k3, k4]; cases e4 <;> rfl, rfl⟩
          case rest =>
          obtain ⟨f, rfl, hf, hW⟩ := hcut
          obtain rfl := hW.out
          clear hW
          have FS : Hid (freeB (b : Nat) sh (us.take (i + 1)) = f) := by show _ = f; rw [hFS.out, hf.out]
          go_wp2_with (at_builtin; refine wpList_append_own _ rfl _ _ 22 rfl w2.heap.size 3 i0 (.int .i64 0) 1 8 Tryz.underlying22 hi hz0 hz1 hz2 rfl (by decide) _ i _ rfl (O7.out.alloc _) ⟨wr.heap.size, 0, none⟩ 1 1 [.int .i64 (u + sh)] rfl rfl (cell_one_new wr (.int .i64 (u + sh)) 3) (by simp [Value.oneCell']) (by unfold maxLen; omega) (by omega) (by have := LE.out; simp; omega) ?_; intro v' w3 hown3 hgrow3 _)
          have hO3 := hid (show w3.ownsRow w2.heap.size 3 1 v' (i + 1) (zs ((us.map (· + sh)).take (i + 1))) by
            rw [List.take_add_one, HR.out, Option.toList_some, zs_append]; exact hown3)
          have hB3 : Hid (Below w2.heap.size w2 w3) := by
            refine (B7.out.alloc B7.out.size _).trans ⟨hgrow3.os, hgrow3.tape, hgrow3.output, hgrow3.size, fun k hk => hgrow3.block k (by have := B7.out.size; simp; omega) (fun e => ?_)⟩
            have := (O7.out.lt k e.symm).1
            omega
          clear hown3 hgrow3 m1
          go_wp2_with fail
          go_roundw
          case rel => exact ⟨i + 1, by go_num, by omega, by rw [HT1.out], by rw [FS.out], hO3, hB3⟩
          case measure => simp [intOf] <;> omega
    · obtain rfl : i = N := by omega
      have q0 : decide ((i : Int) < (i : Int)) = false := by simp
      have PLO := PL.out
      have e1 : txQ (mkRat ((p i : Nat) : Int) S) = ⟨#[49]⟩ := by rw [PREA.out]; exact tot_one PLO
      have e2 : us.take i = us := List.take_of_length_le (by rw [HN.out]; exact Nat.le_refl _)
      have e3 : (us.map (· + sh)).take i = us.map (· + sh) := List.take_of_length_le (by rw [List.length_map, HN.out]; exact Nat.le_refl _)
      rw [e1, e2]
      rw [e3] at hO
      obtain ⟨fr, hfr⟩ : ∃ z, freeB (b : Nat) sh us = z := ⟨_, rfl⟩
      rw [hfr]
      have HFR := hid hfr
      clear e1 e2 e3 hlt hfr PLO
      cases fr
      · go_wp2_with fail
        go_ret
        exact ⟨rfl, bnext y2.out hB.out⟩
      · obtain ⟨E1, E2⟩ := SHF.out sh HFR.out
        obtain ⟨e5, r5, rfl⟩ := owns_ex hO.out
        have P2 := fun V hV hLV => PE V (.slice e5 i r5) (us.map (· + sh)) hV hLV
        rw [E1, E2] at P2
        have R5 := hid (Row.of_owns hO.out)
        have KM := fun V u v h1 h2 => hid (k_SameM V u v L L h1 h2)
        rw [decide_eq_true rfl] at KM
        clear E1 E2
        go_wp2_with fail
        refine (P2 _ R5.out (HL.out.call (bnext y2.out hB.out))).out.mono ?_; rintro e w6 ⟨⟨x6, rfl, hx6⟩, hb6⟩
        have M6 := hid hx6; have M16 := hid ((M1.out.call hB.out).call hb6)
        obtain ⟨a6, d6, rfl⟩ := hx6.openM
        have y6 := hid (bnext (bnext y2.out hB.out) hb6)
        rw [NL.out] at M6 ⊢
        clear hb6 hx6
        go_wp2_with fail
        refine (KM _ _ _ M6.out M16.out).out.mono ?_; rintro e w7 ⟨rfl, hb7⟩
        have y7 := hid (bnext y6.out hb7); clear hb7
        go_wp2_with fail
        go_ret
        exact ⟨rfl, y7.out⟩
end Go.Proofs.YtpehhgkghgbhiaaGreatDoor

/- The walk of law22.ChooseOrder, whole. -/
namespace Go.Proofs.YtpehhgkghgbhiaaGreatDoor
open Go.RowKit Go.Shelf

theorem w_ChooseOrder (w : World) (v : Value) (us : List Int) (s : ByteArray) (B sh : Int) (hv : Row w v (zs us)) (hs : s.size ≤ 9223372036854775807) (hs1 : -9223372036854775808 ≤ sh) (hs2 : sh ≤ 9223372036854775807) (hL : Lay w) :
    Calls Tryz.prog 4 #[v, .string s, .int .i64 B, .int .i64 sh] w fun e w' => e = .returned (.bool true) ∧ Below w.heap.size w w' := by
  by_cases h : 12 < us.length ∨ 10 < s.size ∨ 20 < B
  · exact co_over w v us s B sh hv hs hL h
  · by_cases he : cwE us s B = 0
    · obtain ⟨b, rfl⟩ : ∃ b : Nat, B = b := ⟨B.toNat, (cw_good he).2⟩
      exact co_main w v us s b sh hv hs1 hs2 hL (by omega) (by omega) (by omega) he
    · exact co_err w v us s B sh hv hL (by omega) (by omega) (by omega) he
end Go.Proofs.YtpehhgkghgbhiaaGreatDoor

/- ChooseOrder: the row and the tied card: for every input the law answers true; conditions: none beyond the row's own. -/
namespace Go.Proofs.YtpehhgkghgbhiaaGreatDoor
open Go.ChangeShapes Go.WideShapes Go.ChangeAt Go.RowKit
open Go.ChangeMaps (open_string shut_string)
set_option linter.unusedVariables false

set_option maxRecDepth 100000 in
set_option maxHeartbeats 1000000 in
theorem chooseOrder_lifted (os : Os) (started : os.Started) (H : Type) (enc : TypeId × Value → H) (F : Stop.Interp) :
    ReturnsInHanded {} Tryz.checked os 4 .any ((OpenSpec.ofChange Rows.chooseOrderSpec).preRow enc Tryz.prog Tryz.f4 Rows.chooseOrderRow.domain false Rows.chooseOrderRow.laid)
      (((OpenSpec.ofChange Rows.chooseOrderSpec).at F).post enc Tryz.prog Tryz.f4 false true false false) := by
  refine returnsInHanded_of_row (C := Tryz.checked) (s := OpenSpec.ofChange Rows.chooseOrderSpec) own started (by kernel_rfl) Tryz.func4
    (ChangeSpec.witness_shaped (enc := enc) (C := Tryz.checked) (os := os) (s := Rows.chooseOrderSpec) (conds := Rows.chooseOrderRow.domain) (fn := Tryz.f4) (X := fun w _ => laidMetH Tryz.prog Rows.chooseOrderRow.laid w) false (World.laidAll Tryz.prog os Rows.chooseOrderRow.laid) #[.slice none 0 0, .string ByteArray.empty, .int .i64 0, .int .i64 0] 8 (World.laidAll_os _ _ _)
      (World.shaped_of_ZipB (by kernel_rfl) (by kernel_rfl)) (by kernel_rfl) (by kernel_rfl) (by kernel_rfl)
      (by rw [MakeChecks.laidMetH_plain _ _ _ (by kernel_rfl)]; exact laidMet_laidAll _ (by kernel_rfl) (by kernel_rfl))) ?_
  intro W base args ds gs before hval0 hW _ _ _ hL hsh _
  have hval : ∀ (j : Nat) t v, Tryz.f4.params[j]? = some t → args[j]? = some v → Value.okWide Tryz.prog W .any base t v := hval0
  have hW' := hW
  obtain ⟨p, q, hA0, hV, rfl, hfz, hnd⟩ := hW
  have hA : DataW.TrodAll enc Tryz.prog W 0 (fun _ => true) true Tryz.f4.params.toList args.toList ds p := hA0
  rw [Tryz.params4] at hA hval
  obtain ⟨v0, vs0, d0, ds0, p0, q0, hargs, rfl, rfl, h0, r0⟩ := trodAll_cons hA
  obtain ⟨v1, vs1, d1, ds1, p1, q1, rfl, rfl, rfl, h1, r1⟩ := trodAll_cons r0
  obtain ⟨v2, vs2, d2, ds2, p2, q2, rfl, rfl, rfl, h2, r2⟩ := trodAll_cons r1
  obtain ⟨v3, vs3, d3, ds3, p3, q3, rfl, rfl, rfl, h3, r3⟩ := trodAll_cons r2
  obtain ⟨rfl, rfl, rfl⟩ := trodAll_nil r3
  obtain rfl : args = #[v0, v1, v2, v3] := by cases args; simp_all
  obtain ⟨rfl, rfl⟩ := trodVars_none hV
  have k0 := h0
  have lt0 : ∀ x ∈ p0, x.block < W.heap.size := by obtain ⟨m, hm⟩ := k0; exact DataW.trod_lt m _ _ _ hm
  have k1 := h1
  have lt1 : ∀ x ∈ p1, x.block < W.heap.size := by obtain ⟨m, hm⟩ := k1; exact DataW.trod_lt m _ _ _ hm
  have k2 := h2
  have lt2 : ∀ x ∈ p2, x.block < W.heap.size := by obtain ⟨m, hm⟩ := k2; exact DataW.trod_lt m _ _ _ hm
  have k3 := h3
  have lt3 : ∀ x ∈ p3, x.block < W.heap.size := by obtain ⟨m, hm⟩ := k3; exact DataW.trod_lt m _ _ _ hm
  obtain ⟨l0, R0, Z0⟩ := open_nums Tryz.underlying22 Tryz.underlying3 (by kernel_rfl) (hval 0 22 v0 rfl rfl) h0
  obtain ⟨a1, rfl, rfl, rfl, w1⟩ := open_string Tryz.underlying23 (hval 1 23 v1 rfl rfl) h1
  have z1 : a1.size ≤ 9223372036854775807 := by unfold maxLen at w1; omega
  obtain ⟨a2, rfl, rfl, rfl, w2⟩ := open_int Tryz.underlying3 (hval 2 3 v2 rfl rfl) h2
  have b2 := bounds_i64 w2
  obtain ⟨a3, rfl, rfl, rfl, w3⟩ := open_int Tryz.underlying3 (hval 3 3 v3 rfl rfl) h3
  have b3 := bounds_i64 w3
  clear hA0 hval0
  refine (w_ChooseOrder W v0 l0 a1 a2 a3 R0 z1 b3.1 b3.2 (lay_of hL hsh)).mono fun e W' ⟨he, bel⟩ => ?_
  subst he
  exact ⟨_, rfl, _, _, _, [], _, [], hW', trodAll_mk1 (shut_bool Tryz.underlying4 _), (trodAll_cons_mk (Below.trod laidOut (by kernel_rfl) (of_decide_eq_true (by kernel_rfl)) k0 bel lt0) (trodAll_cons_mk (Below.trod laidOut (by kernel_rfl) (of_decide_eq_true (by kernel_rfl)) k1 bel lt1) (trodAll_cons_mk (Below.trod laidOut (by kernel_rfl) (of_decide_eq_true (by kernel_rfl)) k2 bel lt2) (trodAll_cons_mk (Below.trod laidOut (by kernel_rfl) (of_decide_eq_true (by kernel_rfl)) k3 bel lt3) trodAll_mk0)))), rfl, bel.frame _, fun h => by cases h⟩

theorem chooseOrder_holds : Rows.chooseOrderRow.holds Tryz.pinned (OpenSpec.ofChange Rows.chooseOrderSpec) :=
  OpenClaim.holds_of_cond 4 Tryz.f4 rfl rfl rfl rfl rfl rfl rfl ⟨rfl, rfl, rfl, rfl, rfl⟩ rfl rfl rfl rfl rfl (by kernel_rfl) Tryz.func4 (by kernel_rfl)
    (of_decide_eq_true (by kernel_rfl)) (by unfold Func.isWrapper; first | (rw [if_pos (by decide +kernel)]; kernel_rfl) | (rw [if_neg (by decide +kernel)]; exact ⟨rfl, rfl⟩))
    (fun os started H enc _ F0 => by rw [OpenClaim.pre_eq_preRow]; exact chooseOrder_lifted os started H enc F0)

theorem chooseOrder_card : Rows.ChooseOrderCardSaid :=
  Claim7.holds_tied_plain_at .later [] [.data, .data, .data, .data, .sentinel, .sentinel, .pinned] true Rows.chooseOrderCard.stood.harness true
    chooseOrder_holds (fun _ h => by cases h) (by kernel_rfl) (fun _ h => by cases h) chooseOrder_row_tie rfl ⟨rfl, rfl⟩ (by kernel_rfl) rfl
    (fun f fn hf hfn => by
      obtain rfl : f = 4 := Option.some.inj ((show Tryz.prog.funcNamed "privhouse/privhouselaw22.ChooseOrder" = some 4 by kernel_rfl).symm.trans hf) |>.symm
      obtain rfl : fn = Tryz.f4 := (Option.some.inj (Tryz.func4.symm.trans hfn)).symm
      exact ⟨by kernel_rfl, fun j t ht => by
        rw [Tryz.params4] at ht
        have hm : t ∈ [22, 23, 3, 3] := by simpa using Array.mem_of_getElem? ht
        have hall : ([22, 23, 3, 3].all fun u => !Tryz.prog.wantsStandIn u) = true := by kernel_rfl
        exact (show Tryz.prog.wantsStandIn t = false by simpa using List.all_eq_true.1 hall t hm)⟩)
    (by kernel_rfl)
#print axioms chooseOrder_card
end Go.Proofs.YtpehhgkghgbhiaaGreatDoor
