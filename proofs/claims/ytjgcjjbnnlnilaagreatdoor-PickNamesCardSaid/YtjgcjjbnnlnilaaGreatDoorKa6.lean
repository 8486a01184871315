/- PickScaled: the row and the tied card: for every input the law answers true; conditions: none beyond the row's own. -/
import Derived.Test.YtjgcjjbnnlnilaaGreatDoorKa5
import Derived.IntWalk
namespace Go.Proofs.YtjgcjjbnnlnilaaGreatDoor
open Go.RowKit
set_option linter.unusedVariables false

theorem make_limbs (n : Nat) (hn : n ≤ 3000000) (W : World) : (Instr.makeSlice 77 (.int .i64 (n : Int)) (.int .i64 (n : Int))).run Tryz.prog W = .ok (.slice (some ⟨W.heap.size, 0, none⟩) n n) (W.alloc (.cells (madeCells #[.int .i64 0] n) 3)) :=
  run_make_row' (P := Tryz.prog) 77 3 (.int .i64 0) 8 Tryz.underlying77 (by kernel_rfl) rfl .i64 .i64 n (by omega) (by omega) W

set_option maxRecDepth 100000 in
set_option maxHeartbeats 4000000 in
theorem r1_Times (w : World) (v u : Value) (a b : Nat) (ha : IsN .i64 w v a) (hb : IsN .i64 w u b) (hla : (limbs a).length ≤ 1000000) (hlb : (limbs b).length ≤ 1000000) :
    Calls Tryz.prog 54 #[v, u] w fun e w' => RetN .i64 (a * b) e w' ∧ Below w.heap.size w w' := by
  obtain ⟨a1, c1, rfl, h1, h2, h3⟩ := ha.openI
  obtain ⟨a2, c2, rfl, k1, k2, k3⟩ := hb.openI
  have H3 := hid h3; have K3 := hid k3; clear h3 k3 ha hb
  obtain ⟨n, ea⟩ : ∃ n, (limbs a).length = n := ⟨_, rfl⟩
  obtain ⟨m, eb⟩ : ∃ m, (limbs b).length = m := ⟨_, rfl⟩
  rw [ea] at h1 hla ⊢
  rw [eb] at k1 hlb ⊢
  have HA := hid ea; have HB := hid eb
  clear ea eb
  have hmk : ∀ W : World, (Instr.makeSlice 77 (.int .i64 ((n : Int) + m)) (.int .i64 ((n : Int) + m))).run Tryz.prog W = .ok (.slice (some ⟨W.heap.size, 0, none⟩) (n + m) (n + m)) (W.alloc (.cells (madeCells #[.int .i64 0] (n + m)) 3)) := fun W => by
    have := make_limbs (n + m) (by omega) W
    rwa [Int.natCast_add] at this
  go_enter Tryz.func54, Tryz.ntmps54
  go_wp2_with fail
  clear hmk
  go_loopw [6] (fun i wr => ∃ (k : Nat) (o : List Nat), i = .int .i64 k ∧ k ≤ n ∧ Hid (MulI a b k o) ∧ Hid (Arr .i64 3 wr w.heap.size o) ∧ Hid (Below w.heap.size w wr)) (fun i _ => n - (intOf i).toNat)
  case atStart => exact ⟨0, _, rfl, Nat.zero_le _, MulI.start a b, by rw [HA.out, HB.out]; exact Arr.made w .i64 3 (n + m), (Below.refl _ _).alloc (Nat.le_refl _) _⟩
  case round =>
    obtain ⟨i, o, rfl, hin, hM, hO, hB⟩ := hrel
    by_cases hlt : i < n
    · obtain ⟨x, hx⟩ : ∃ x, (limbs a)[i]? = some x := ⟨_, List.getElem?_eq_getElem (by rw [HA.out]; exact hlt)⟩
      obtain ⟨g, og, rfl, hg, hc⟩ := H3.out _ x hx
      have HX := hid hx; have HC := hid hc; clear hx hc
      have hsize := hid (show o.length = n + m from by rw [hM.out.len, HA.out, HB.out])
      go_wp2_with fail
      obtain ⟨wo, rfl⟩ : ∃ wo : World, wo = wr := ⟨_, rfl⟩
      go_loopw [7, 8, 9] (fun cc kk nn wq => ∃ (c k : Nat) (o : List Nat), cc = .int .i64 c ∧ kk = .int .i64 k ∧ k ≤ m ∧ Hid (MulJ a b i x k c o) ∧ Hid (Arr .i64 3 wq w.heap.size o) ∧ Hid (Below w.heap.size w wq)) (fun _ kk _ _ => m - (intOf kk).toNat)
      case atStart => exact ⟨0, 0, o, rfl, rfl, Nat.zero_le _, hM.out.enter, hO, hB⟩
      case round =>
        obtain ⟨c, k, o, rfl, rfl, hkm, hJ, hO, hB⟩ := hrel
        have hsz : Hid (o.length = n + m) := by rw [Hid, hJ.out.len, HA.out, HB.out]
        by_cases hkl : k < m
        · obtain ⟨y, hy⟩ : ∃ y, (limbs b)[k]? = some y := ⟨_, List.getElem?_eq_getElem (by rw [HB.out]; exact hkl)⟩
          obtain ⟨g', og', rfl, hg', hd⟩ := K3.out _ y hy
          obtain ⟨old, ho⟩ : ∃ old, o[i + k]? = some old := ⟨_, List.getElem?_eq_getElem (by rw [hsz.out]; omega)⟩
          have d1 := (hB.out.cell (p := ⟨g, og + i, none⟩) hg).trans HC.out
          have d2 := (hB.out.cell (p := ⟨g', og' + k, none⟩) hg').trans hd
          have d3 := hO.out.cell ho
          have d4 := hO.out.free (i + k)
          have hb1 := mul_bound (hJ.out.sm.get ho) ((sm_limbs a).get HX.out) ((sm_limbs b).get hy) hJ.out.c1
          have HN := hid (hJ.out.next HX.out hy ho)
          have hol := hJ.out.sm.get ho
          have hcl := hJ.out.c1
          have HP := hid (show ((x : Int) * (y : Int)) = ((x * y : Nat) : Int) from (Int.natCast_mul x y).symm)
          obtain ⟨p, hp⟩ : ∃ p, x * y = p := ⟨_, rfl⟩
          rw [hp] at hb1 HN HP
          have hp2 := hb1.2; have hb1 := hb1.1
          clear hd hy ho hp
          have e1 : (0 : Int) ≤ (i : Int) + k := by omega
          have e2 : (i : Int) + k < (n : Int) + m := by omega
          have f1 : (0 : Int) ≤ (i : Int) := by omega
          have f2 : (i : Int) < (n : Int) := by omega
          have f3 : (0 : Int) ≤ (k : Int) := by omega
          have f4 : (k : Int) < (m : Int) := by omega
          have e3 : IntKind.i64.wrap ((i : Int) + k) = (i : Int) + k := IntWalk.i64_in _ (by omega)
          have e4 : ((i : Int) + k).toNat = i + k := by omega
          have e5 : IntKind.i64.wrap ((x : Int) * (y : Int)) = (p : Int) := by rw [HP.out]; exact IntWalk.i64_in _ (by omega)
          have e6 : IntKind.i64.wrap ((old : Int) + (p : Int)) = (old : Int) + (p : Int) := IntWalk.i64_in _ (by omega)
          have e7 : IntKind.i64.wrap ((old : Int) + (p : Int) + (c : Int)) = (old : Int) + (p : Int) + (c : Int) := IntWalk.i64_in _ (by omega)
          go_wp2_with fail
          go_quiet (fail)
          clear e3 e4 e5 e6 e7
          go_wp2_with fail
          go_roundw
          case rel =>
            have hz : (((old : Int) + p + c) % 1000000000) = (((old + p + c) % 1000000000 : Nat) : Int) := by omega
            rw [hz]
            exact ⟨(old + p + c) / 1000000000, k + 1, _, by go_num, by go_num, by omega, HN, (hO.out.drewN _).set (i + k) _, below_set (below_drewN hB.out _) (Nat.le_refl _) _⟩
          case measure => simp [intOf] <;> omega
        · obtain rfl : k = m := by omega
          have HJ := hid (show MulI a b (i + 1) (o.set (i + k) c) from by have := hJ.out; rw [← HB.out] at this ⊢; exact this.leave HX.out)
          obtain ⟨z, hz⟩ : ∃ z, o[i + k]? = some z := ⟨_, List.getElem?_eq_getElem (by rw [hsz.out]; omega)⟩
          have d3 := hO.out.cell hz
          have d4 := hO.out.free (i + k)
          clear hz
          go_wp2_with fail
          go_roundw
          case rel => exact ⟨i + 1, _, by go_num, by omega, HJ, hO.out.set (i + k) c, below_set hB.out (Nat.le_refl _) _⟩
          case measure => simp [intOf] <;> omega
    · obtain rfl : i = n := by omega
      have hv := hid (show val o = a * b from MulI.done (by have := hM.out; rw [← HA.out] at this; exact this))
      have hl := hid (show o.length = i + m from by rw [hM.out.len, HA.out, HB.out])
      have hr := hid (show Row wr (.slice (some ⟨w.heap.size, 0, none⟩) (i + m) (i + m)) (ints .i64 o) from by
        have := hO.out.row (n := i + m) (c := i + m) (by rw [hl.out]; exact Nat.le_refl _) (Nat.le_refl _) (by unfold maxLen; omega)
        rwa [List.take_of_length_le (by rw [hl.out]; exact Nat.le_refl _)] at this)
      go_wp2_with (go_at_call 107; refine (r1_trim _ _ o hM.out.sm hr.out).mono ?_; rintro e w1 ⟨⟨v1, rfl, hv1⟩, rfl⟩)
      go_ret
      exact ⟨⟨v1, rfl, by rw [← hv.out]; exact hv1⟩, hB.out⟩
end Go.Proofs.YtjgcjjbnnlnilaaGreatDoor

/- Walks: the reference's Read. -/
namespace Go.Proofs.YtjgcjjbnnlnilaaGreatDoor
open Go.RowKit
set_option linter.unusedVariables false

set_option maxRecDepth 100000 in
set_option maxHeartbeats 2000000 in
theorem r1_Read (w : World) (s : ByteArray) (hd : allDig s.data.toList) (hs : s.size ≤ 1000000) :
    Calls Tryz.prog 55 #[.string s] w fun e w' => RetN .i64 (dv s.data.toList) e w' ∧ Below w.heap.size w w' := by
  obtain ⟨i0, hi, hz0, hz1, hz2⟩ := info_parts info_int
  have HD := hid hd; clear hd
  have hsl := hid (show s.data.toList.length = s.size from by simp)
  go_enter Tryz.func55, Tryz.ntmps55
  go_wp2_with fail
  go_loopw [3, 4, 5, 6] (fun o ee nn ii wr => ∃ (l : List Nat) (t : Int) (e : Nat), ee = .int .i64 t ∧ t ≤ s.size ∧ -9 < t ∧ e = t.toNat ∧ l.length ≤ s.size ∧ l.length + e ≤ s.size ∧ Hid (ReadI s.data.toList e l) ∧ Hid (wr.ownsRow w.heap.size 3 1 o l.length (ints .i64 l)) ∧ Hid (Below w.heap.size w wr))
    (fun _ ee _ _ _ => (intOf ee).toNat)
  case atStart => exact ⟨[], _, s.size, rfl, by omega, by omega, by simp, by simp, by simp, by have := ReadI.start s.data.toList; rw [hsl.out] at this; exact this, World.ownsRow_nil _ _ _ _, Below.refl _ _⟩
  case round =>
    obtain ⟨l, t, e, rfl, ht1, ht2, he, hl1, hl2, hR, hO, hB⟩ := hrel
    obtain ⟨ao, co, rfl⟩ := owns_ex hO.out
    by_cases h0 : e = 0
    · have q0 : decide ((0 : Int) < t) = false := by simp; omega
      subst h0
      have hv := hid hR.out.done
      clear he
      go_wp2_with fail
      refine (r1_trim _ _ l hR.out.sm (Row.of_owns hO.out)).mono ?_
      rintro e w1 ⟨⟨v1, rfl, hv1⟩, rfl⟩
      go_wp2_with fail
      go_ret
      exact ⟨⟨v1, rfl, by rw [← hv.out]; exact hv1⟩, hB.out⟩
    · obtain rfl : t = (e : Int) := by omega
      clear he
      have q0 : decide ((0 : Int) < (e : Int)) = true := by simp; omega
      obtain ⟨L, hL⟩ : ∃ L, s.data.toList = L := ⟨_, rfl⟩
      obtain ⟨s0, hs0⟩ : ∃ s0, s0 = e - 9 := ⟨_, rfl⟩
      have HS0 := hid hs0
      have h3 : s0 ≤ e := by omega
      have h4 : e ≤ s0 + 9 := by omega
      have hI : (9 < e ∧ (e : Int) - 9 = (s0 : Int)) ∨ (e ≤ 9 ∧ (0 : Int) = (s0 : Int)) := by omega
      clear hs0
      rcases hI with ⟨h9, hse⟩ | ⟨h9, hse⟩
      all_goals
        have HSE := hid hse
        clear hse
        go_wp2_with fail
        go_loop [5, 6] (fun nn ii => ∃ (i x : Nat), ii = .int .i64 i ∧ nn = .int .i64 x ∧ s0 ≤ i ∧ i ≤ e ∧ x < 1000000000 ∧ Hid (x = dv ((L.drop s0).take (i - s0)))) (fun _ ii => e - (intOf ii).toNat)
        case atStart => exact ⟨s0, 0, by have hh := HSE.out; first | (rw [← hh]; done) | (congr 1; omega), rfl, Nat.le_refl _, h3, by omega, by simp [Hid]⟩
        case round =>
          obtain ⟨i, x, rfl, rfl, hi1, hi2, hx, hxd⟩ := hrel
          by_cases hlt : i < e
          · have hsz : i < s.size := by omega
            have hb := byte_get hsz
            rw [hL] at hb
            have hdig := isDig_iff.1 (HD.out s[i] (List.mem_of_getElem? (by rw [hL]; exact hb)))
            have hd1 := hdig.1; have hd2 := hdig.2
            have hcs := hid (chunk_succ hb hi1)
            have hlt9 := hid (chunk_lt (L := L) (a := s0) (k := i + 1 - s0) (by rw [← hL]; exact HD.out) (by omega))
            clear hb hdig
            go_wp2_with fail
            go_round
            case rel =>
              refine ⟨i + 1, 10 * x + (s[i].toNat - 48), by go_num, ?_, by omega, by omega, ?_, ?_⟩
              · congr 1; omega
              · have := hlt9.out; rw [hcs.out, ← hxd.out] at this; exact this
              · rw [Hid, hcs.out, ← hxd.out]
            case measure => simp [intOf] <;> omega
          · obtain rfl : i = e := by omega
            have HN := hid (hR.out.next HD.out)
            rw [hL, ← HS0.out, ← hxd.out] at HN
            go_wp2_with (at_builtin; refine wpList_append_own _ rfl _ _ 77 rfl w.heap.size 3 i0 (.int .i64 0) 1 8 Tryz.underlying77 hi hz0 hz1 hz2 rfl (by decide) _ l.length _ rfl (hO.out.alloc _) ⟨wr.heap.size, 0, none⟩ 1 1 [.int .i64 (x : Int)] rfl rfl (cell_one_new wr (.int .i64 (x : Int)) 3) (by simp [Value.oneCell']) (by unfold maxLen; omega) (by omega) (by have := hB.out.size; simp; omega) ?_; intro v' w3 hown3 hgrow3 _; have HO3 := hid hown3; have HG3 := hid hgrow3; clear hown3 hgrow3)
            obtain ⟨n1, n2⟩ := own_next hO.out hB.out HO3.out HG3.out
            have N1 := hid n1; have N2 := hid n2; clear n1 n2 HO3 HG3
            obtain ⟨a3, k3, rfl⟩ := owns_ex N1.out
            have hS := HS0.out
            go_wp2_with fail
            go_roundw
            case rel => exact ⟨l ++ [x], _, s0, rfl, by omega, by omega, by omega, by simp <;> omega, by simp <;> omega, by rw [hL]; exact HN, N1, N2⟩
            case measure => simp [intOf] <;> omega
end Go.Proofs.YtjgcjjbnnlnilaaGreatDoor

/- Walks: the reference's Write (whole); texts that are read. -/
namespace Go.Proofs.YtjgcjjbnnlnilaaGreatDoor
open Go.RowKit
open Go.Lib (decDigits nDigits)
set_option linter.unusedVariables false

theorem r1_Write (w : World) (v : Value) (n : Nat) (h : IsN .i64 w v n) (hl : (limbs n).length ≤ 1000000) : Calls Tryz.prog 62 #[v] w fun e w' => e = .returned (numV n) ∧ Below w.heap.size w w' := by
  rcases Nat.eq_zero_or_pos n with rfl | h0
  · exact r1_Write_zero w v h
  · exact r1_Write_pos w v n h h0 hl

/-- The texts of two numbers that are read. -/
theorem errN_read {s : ByteArray} (h : errN s.data.toList = 0) : ∃ a, s = numB a ∧ nDigits a ≤ 4000 := by
  obtain ⟨a, e, h2⟩ := errN_zero.1 h
  refine ⟨a, ?_, h2⟩
  cases s with
  | mk d =>
    have : d = (decDigits a).toArray := by rw [← e]
    rw [this]; rfl

theorem r1_Read_num (w : World) (a : Nat) (h : nDigits a ≤ 9000) : Calls Tryz.prog 55 #[.string (numB a)] w fun e w' => RetN .i64 a e w' ∧ Below w.heap.size w w' := by
  have := r1_Read w (numB a) (by rw [numB_list]; exact allDig_dec a) (by rw [numB_size]; omega)
  rwa [numB_list, dv_dec] at this
end Go.Proofs.YtjgcjjbnnlnilaaGreatDoor

/- Walks: the reference's both. -/
namespace Go.Proofs.YtjgcjjbnnlnilaaGreatDoor
open Go.RowKit
open Go.Lib (decDigits nDigits)
set_option linter.unusedVariables false

theorem r1_both (w : World) (s t : ByteArray) (hs : s.size ≤ 9223372036854775807) (ht : t.size ≤ 9223372036854775807) : Calls Tryz.prog 52 #[.string s, .string t] w fun e w' =>
    e = .returned (.int .i64 (if errN s.data.toList = 0 then errN t.data.toList else errN s.data.toList)) ∧ w = w' := by
  obtain ⟨x, hx⟩ : ∃ x, errN s.data.toList = x := ⟨_, rfl⟩
  obtain ⟨y, hy⟩ : ∃ y, errN t.data.toList = y := ⟨_, rfl⟩
  have HX := hid hx; have HY := hid hy
  rw [hx, hy]
  clear hx hy
  by_cases h0 : x = 0
  · subst h0
    go_enter Tryz.func52, Tryz.ntmps52
    go_wp2_with fail
    refine (r1_Check _ s hs).mono ?_; rintro e w1 ⟨rfl, rfl⟩
    rw [HX.out]
    go_wp2_with fail
    refine (r1_Check _ t ht).mono ?_; rintro e w1 ⟨rfl, rfl⟩
    rw [HY.out]
    go_wp2_with fail
    go_ret
    exact ⟨ret_int (by simp), rfl⟩
  · have q0 : (x != 0) = true := by simp; omega
    have H0 := hid h0; clear h0
    go_enter Tryz.func52, Tryz.ntmps52
    go_wp2_with fail
    refine (r1_Check _ s hs).mono ?_; rintro e w1 ⟨rfl, rfl⟩
    rw [HX.out]
    go_wp2_with fail
    go_ret
    exact ⟨ret_int (by first | rfl | rw [if_neg H0.out]), rfl⟩
end Go.Proofs.YtjgcjjbnnlnilaaGreatDoor

/- Walks: the reference's number, Mul, Cmp. -/
namespace Go.Proofs.YtjgcjjbnnlnilaaGreatDoor
open Go.RowKit
open Go.Lib (decDigits nDigits)
set_option linter.unusedVariables false

set_option maxHeartbeats 1000000 in
theorem r1_number (w : World) (v : Value) (n : Nat) (h : IsN .i64 w v n) (hl : (limbs n).length ≤ 1000000) : Calls Tryz.prog 53 #[v] w fun e w' => e = .returned (.tuple #[resS n, .int .i64 (resE n)]) ∧ Below w.heap.size w w' := by
  have H := hid h; have HL := hid hl
  have hsz := hid (numB_size n)
  have hbd := nDigits_bound hl (by omega)
  obtain ⟨B, hB⟩ : ∃ B, numB n = B := ⟨_, rfl⟩
  have HB := hid hB
  obtain ⟨a, c, rfl, _⟩ := h.openI
  clear h hl hB
  have hBs := hid (show B.size = nDigits n from by rw [← HB.out]; exact hsz.out)
  by_cases hlong : 4000 < nDigits n
  · have HR := hid (And.intro (resS_long hlong) (resE_long hlong))
    have q0 : decide ((4000 : Int) < (B.size : Int)) = true := by rw [hBs.out]; simp; omega
    clear hlong
    go_enter Tryz.func53, Tryz.ntmps53
    go_wp2_with fail
    refine (r1_Write _ _ n H.out HL.out).mono ?_; rintro e w1 ⟨rfl, hb1⟩
    rw [numV_eq, HB.out]
    go_wp2_with fail
    go_ret2
    exact ⟨ret_pair HR.out.1.symm HR.out.2.symm, hb1⟩
  · have HR := hid (And.intro (resS_ok hlong) (resE_ok hlong))
    have q0 : decide ((4000 : Int) < (B.size : Int)) = false := by rw [hBs.out]; simp; omega
    clear hlong
    go_enter Tryz.func53, Tryz.ntmps53
    go_wp2_with fail
    refine (r1_Write _ _ n H.out HL.out).mono ?_; rintro e w1 ⟨rfl, hb1⟩
    rw [numV_eq, HB.out]
    go_wp2_with fail
    go_ret2
    exact ⟨ret_pair (by rw [HR.out.1, numV_eq, HB.out]; rfl) HR.out.2.symm, hb1⟩

set_option maxHeartbeats 1000000 in
theorem r1_Mul (w : World) (s t : ByteArray) (hs : s.size ≤ 9223372036854775807) (ht : t.size ≤ 9223372036854775807) : Calls Tryz.prog 14 #[.string s, .string t] w fun e w' =>
    e = .returned (.tuple #[opS (· * ·) s.data.toList t.data.toList, .int .i64 (opE (· * ·) s.data.toList t.data.toList)]) ∧ Below w.heap.size w w' := by
  by_cases h : errN s.data.toList = 0 ∧ errN t.data.toList = 0
  · obtain ⟨a, rfl, ha⟩ := errN_read h.1
    obtain ⟨b, rfl, hb⟩ := errN_read h.2
    have HE := hid h
    have hS := hid (show opS (· * ·) (numB a).data.toList (numB b).data.toList = resS (a * b) from by rw [opS, if_pos h, numB_list, numB_list, dv_dec, dv_dec])
    have hE := hid (show opE (· * ·) (numB a).data.toList (numB b).data.toList = resE (a * b) from by rw [opE, if_pos h.1, if_pos h.2, numB_list, numB_list, dv_dec, dv_dec])
    have HA := hid ha; have HB := hid hb
    rw [hS.out, hE.out]
    clear ha hb h hS hE
    go_enter Tryz.func14, Tryz.ntmps14
    go_wp2_with fail
    refine (r1_both _ _ _ hs ht).mono ?_; rintro e w1 ⟨rfl, rfl⟩
    rw [HE.out.1, HE.out.2]
    go_wp2_with fail
    refine (r1_Read_num _ a (by have := HA.out; omega)).mono ?_; rintro e w1 ⟨⟨v1, rfl, hv1⟩, hb1⟩
    have V1 := hid hv1; have B1 := hid hb1; clear hv1 hb1
    go_wp2_with fail
    refine (r1_Read_num _ b (by have := HB.out; omega)).mono ?_; rintro e w2 ⟨⟨v2, rfl, hv2⟩, hb2⟩
    have V2 := hid hv2; have B2 := hid (bnext B1.out hb2); have V1' := hid (V1.out.call hb2); clear hv2 hb2
    go_wp2_with fail
    refine (r1_Times _ v1 v2 a b V1'.out V2.out (by have := limbs_of_digits HA.out; omega) (by have := limbs_of_digits HB.out; omega)).mono ?_; rintro e w3 ⟨⟨v3, rfl, hv3⟩, hb3⟩
    have V3 := hid hv3; have B3 := hid (bnext B2.out hb3); clear hv3 hb3
    go_wp2_with fail
    refine (r1_number _ v3 (a * b) V3.out (by have := limbs_mul (limbs_of_digits HA.out) (limbs_of_digits HB.out); omega)).mono ?_; rintro e w4 ⟨rfl, hb4⟩
    have B4 := hid (bnext B3.out hb4); clear hb4
    go_wp2_with fail
    go_ret2
    exact ⟨rfl, B4.out⟩
  · have hS := hid (show opS (· * ·) s.data.toList t.data.toList = .string ⟨#[]⟩ from by rw [opS, if_neg h])
    obtain ⟨x, hx⟩ : ∃ x, (if errN s.data.toList = 0 then errN t.data.toList else errN s.data.toList) = x := ⟨_, rfl⟩
    have hE := hid (show opE (· * ·) s.data.toList t.data.toList = x from by
      rw [← hx, opE]
      split
      · split
        · rename_i h1 h2; exact absurd ⟨h1, h2⟩ h
        · rfl
      · rfl)
    have hx0 : x ≠ 0 := fun e => by
      rw [e] at hx
      split at hx
      · rename_i h1; exact h ⟨h1, hx⟩
      · rename_i h1; exact h1 hx
    have q0 : (x != 0) = true := by simp; omega
    have HX := hid hx
    rw [hS.out, hE.out]
    clear hx hx0 h hS hE
    go_enter Tryz.func14, Tryz.ntmps14
    go_wp2_with fail
    refine (r1_both _ _ _ hs ht).mono ?_; rintro e w1 ⟨rfl, rfl⟩
    rw [HX.out]
    go_wp2_with fail
    go_ret2
    exact ⟨rfl, Below.refl _ _⟩

set_option maxHeartbeats 1000000 in
theorem r1_Cmp (w : World) (s t : ByteArray) (hs : s.size ≤ 9223372036854775807) (ht : t.size ≤ 9223372036854775807) : Calls Tryz.prog 127 #[.string s, .string t] w fun e w' =>
    e = .returned (.int .i64 (cmpN s.data.toList t.data.toList)) ∧ Below w.heap.size w w' := by
  by_cases h : errN s.data.toList = 0 ∧ errN t.data.toList = 0
  · obtain ⟨a, rfl, ha⟩ := errN_read h.1
    obtain ⟨b, rfl, hb⟩ := errN_read h.2
    have HE := hid h
    have hC := hid (show cmpN (numB a).data.toList (numB b).data.toList = ordN a b from by rw [cmpN, if_pos h, numB_list, numB_list, dv_dec, dv_dec])
    have HA := hid ha; have HB := hid hb
    rw [hC.out]
    clear ha hb h hC
    go_enter Tryz.func127, Tryz.ntmps127
    go_wp2_with fail
    refine (r1_both _ _ _ hs ht).mono ?_; rintro e w1 ⟨rfl, rfl⟩
    rw [HE.out.1, HE.out.2]
    go_wp2_with fail
    refine (r1_Read_num _ a (by have := HA.out; omega)).mono ?_; rintro e w1 ⟨⟨v1, rfl, hv1⟩, hb1⟩
    have V1 := hid hv1; have B1 := hid hb1; clear hv1 hb1
    go_wp2_with fail
    refine (r1_Read_num _ b (by have := HB.out; omega)).mono ?_; rintro e w2 ⟨⟨v2, rfl, hv2⟩, hb2⟩
    have V2 := hid hv2; have B2 := hid (bnext B1.out hb2); have V1' := hid (V1.out.call hb2); clear hv2 hb2
    go_wp2_with fail
    refine (r1_Order _ v1 v2 a b V1'.out V2.out).mono ?_; rintro e w3 ⟨rfl, hb3⟩
    have B3 := hid (bnext B2.out hb3); clear hb3
    go_wp2_with fail
    go_ret
    exact ⟨rfl, B3.out⟩
  · have hC := hid (show cmpN s.data.toList t.data.toList = 0 from by rw [cmpN, if_neg h])
    obtain ⟨x, hx⟩ : ∃ x, (if errN s.data.toList = 0 then errN t.data.toList else errN s.data.toList) = x := ⟨_, rfl⟩
    have hx0 : x ≠ 0 := fun e => by
      rw [e] at hx
      split at hx
      · rename_i h1; exact h ⟨h1, hx⟩
      · rename_i h1; exact h1 hx
    have q0 : (x != 0) = true := by simp; omega
    have HX := hid hx
    rw [hC.out]
    clear hx hx0 h hC
    go_enter Tryz.func127, Tryz.ntmps127
    go_wp2_with fail
    refine (r1_both _ _ _ hs ht).mono ?_; rintro e w1 ⟨rfl, rfl⟩
    rw [HX.out]
    go_wp2_with fail
    go_ret
    exact ⟨rfl, Below.refl _ _⟩
end Go.Proofs.YtjgcjjbnnlnilaaGreatDoor

/- Walks: law05.PickScaled. -/
namespace Go.Proofs.YtjgcjjbnnlnilaaGreatDoor
open Go.RowKit Go.Shelf
open Go.Lib (decDigits nDigits)
set_option linter.unusedVariables false
set_option linter.unusedSimpArgs false

theorem make_nums (n : Nat) (hn : n ≤ 3000000) (W : World) : (Instr.makeSlice 22 (.int .i64 (n : Int)) (.int .i64 (n : Int))).run Tryz.prog W = .ok (.slice (some ⟨W.heap.size, 0, none⟩) n n) (W.alloc (.cells (madeCells #[.string ⟨#[]⟩] n) 23)) :=
  run_make_row' (P := Tryz.prog) 22 23 (.string ⟨#[]⟩) 16 Tryz.underlying22 (by kernel_rfl) rfl .i64 .i64 n (by omega) (by omega) W

/-- Some ones, then empty texts. -/
def fillA (j m : Nat) : Array Value := ((List.range m).map (fun x => if x < j then Value.string ⟨#[49]⟩ else .string ⟨#[]⟩)).toArray
theorem fillA_zero (m : Nat) : madeCells #[.string ⟨#[]⟩] m = fillA 0 m := by
  apply Array.ext_getElem?
  intro i
  unfold madeCells fillA
  by_cases hi : i < m <;> simp [hi, Nat.mod_one]
theorem fillA_set {j m : Nat} (h : j < m) : (fillA j m).setIfInBounds j (.string ⟨#[49]⟩) = fillA (j + 1) m := by
  unfold fillA
  rw [List.setIfInBounds_toArray]
  congr 1
  apply List.ext_getElem?
  intro i
  by_cases hi : i < m
  · by_cases e : i = j
    · subst e; simp [hi]
    · rw [List.getElem?_set_ne (fun h => e h.symm)]
      simp only [List.getElem?_map, List.getElem?_range hi, Option.map_some]
      by_cases h1 : i < j
      · rw [if_pos h1, if_pos (by omega)]
      · rw [if_neg h1, if_neg (by omega)]
  · rw [List.getElem?_eq_none (by simp; omega), List.getElem?_eq_none (by simp; omega)]
theorem fillA_row {w : World} {g m : Nat} (h : Blk w g (fillA m m) 23) (hm : m ≤ 1000) : Row w (.slice (some ⟨g, 0, none⟩) m m) (strs (onesL m)) := by
  refine Row.of_blk h (by simp [onesL]) (by unfold maxLen; omega) (fun i x hx => ?_) (Nat.le_refl _) (by unfold maxLen; omega)
  have hi := (List.getElem?_eq_some_iff.1 hx).1
  simp [onesL] at hi
  rw [← hx]
  unfold fillA strs onesL
  simp [hi, numB_one]

/-- The weights by a factor, as far as they have come. -/
def ScI (l : List ByteArray) (c : Nat) (i : Nat) : Prop := ∀ j, j < i → ∃ x, l[j]? = some x ∧ errN x.data.toList = 0 ∧ nDigits (bN x * c) ≤ 4000
def scB (l : List ByteArray) (c : Nat) : List ByteArray := l.map (fun x => numB (bN x * c))

theorem longB_no {l : List ByteArray} (h : ¬ longB l = true) : (∀ x ∈ l, x.size ≤ 300) ∧ l.length ≤ 70 := by
  unfold longB at h
  simp only [Bool.or_eq_true, List.any_eq_true, decide_eq_true_eq, not_or, not_exists, not_and] at h
  exact ⟨fun x hx => by have := h.1 x hx; omega, by omega⟩

theorem scB_all {l : List ByteArray} {c : Nat} (hl : ¬ longB l = true) (hs : ScI l c l.length) (h0 : 0 < c) (hc : nDigits c ≤ 100) (b : ByteArray) (n : Int) :
    drE (scB l c) b = drE l b ∧ dr3 (scB l c) b = dr3 l b ∧ lawE (scB l c) n = lawE l n ∧ lawR (scB l c) n = lawR l n ∧ ∀ x ∈ scB l c, x.size ≤ 1000000 := by
  obtain ⟨h1, h2⟩ := longB_no hl
  have hx : ∀ x ∈ l, x = numB (bN x) := fun x hx => by
    obtain ⟨i, hi⟩ := List.getElem?_of_mem hx
    obtain ⟨y, hy, he, -⟩ := hs i (List.getElem?_eq_some_iff.1 hi).1
    rw [hi] at hy
    obtain rfl := Option.some.inj hy
    obtain ⟨a, rfl, -⟩ := errN_read he
    rw [bN_num]
  have e1 : l = (l.map bN).map numB := by
    rw [List.map_map]
    conv => lhs; rw [← List.map_id l]
    exact List.map_congr_left fun x h => hx x h
  have e2 : scB l c = (scl c (l.map bN)).map numB := by unfold scB scl; rw [List.map_map, List.map_map]; rfl
  have d1 : ∀ x ∈ l.map bN, nDigits x ≤ 300 := fun x h => by
    obtain ⟨y, hy, rfl⟩ := List.mem_map.1 h
    have := h1 y hy
    rw [hx y hy, numB_size] at this
    exact this
  have d2 : ∀ x ∈ l.map bN, nDigits (x * c) ≤ 400 := fun x h => nd_mul (d1 x h) hc (by omega)
  obtain ⟨k1, k2, k3, k4⟩ := scl_all h0 (fun x h => by have := d1 x h; omega) (fun x h => by have := d2 x h; omega) b n
  rw [← e1, ← e2] at k1 k2 k3 k4
  refine ⟨k1, k2, k3, k4, fun x h => ?_⟩
  obtain ⟨y, hy, rfl⟩ := List.mem_map.1 h
  rw [numB_size]
  have := d2 (bN y) (List.mem_map_of_mem hy)
  omega

theorem opE_zero {s t : ByteArray} (ht : errN t.data.toList = 0) (h : opE (· * ·) s.data.toList t.data.toList = 0) : errN s.data.toList = 0 ∧ nDigits (bN s * bN t) ≤ 4000 ∧ opS (· * ·) s.data.toList t.data.toList = .string (numB (bN s * bN t)) := by
  unfold opE at h
  by_cases hs : errN s.data.toList = 0
  · rw [if_pos hs, if_pos ht] at h
    unfold resE at h
    by_cases hd : 4000 < nDigits (dv s.data.toList * dv t.data.toList)
    · rw [if_pos hd] at h; exact absurd h (by decide)
    · refine ⟨hs, by unfold bN; omega, ?_⟩
      rw [opS, if_pos ⟨hs, ht⟩, resS, if_neg hd]
      rfl
  · rw [if_neg hs] at h; exact absurd h hs

set_option maxRecDepth 100000 in
set_option maxHeartbeats 8000000 in
theorem w_PickScaled (w : World) (v : Value) (l : List ByteArray) (f b : ByteArray) (n many : Int) (hv : Row w v (strs l)) (hf : f.size ≤ 9223372036854775807) (hb : b.size ≤ 9223372036854775807)
    (hn1 : -9223372036854775808 ≤ n) (hn2 : n ≤ 9223372036854775807) (hm1 : -9223372036854775808 ≤ many) (hm2 : many ≤ 9223372036854775807) (hL : Lay w) :
    Calls Tryz.prog 3 #[v, .string f, .string b, .int .i64 n, .int .i64 many] w fun e w' => e = .returned (.bool true) ∧ Below w.heap.size w w' := by
  have HLV := hid (w_lives w hL)
  have HLG := fun V hV => hid (p_long V v l hV)
  have HV := hid hv; have HL := hid hL
  obtain ⟨a, c, rfl, c1, c2, -⟩ := hv.openS
  obtain ⟨N, hN⟩ : ∃ N, l.length = N := ⟨_, rfl⟩
  have HN := hid hN
  rw [hN] at HLG HV c1 ⊢
  clear hL hv hN
  by_cases g0 : longB l = true
  · rw [g0] at HLG
    clear g0
    go_enter Tryz.func3, Tryz.ntmps3
    go_wp2_with fail
    refine HLV.out.mono ?_; rintro e w1 ⟨rfl, hb1⟩
    have y1 := hid hb1; clear hb1
    go_wp2_with fail
    refine (HLG _ (HV.out.call y1.out)).out.mono ?_; rintro e w2 ⟨rfl, rfl⟩
    go_wp2_with fail
    go_ret
    exact ⟨rfl, y1.out⟩
  have HG0 := hid g0
  rw [Bool.not_eq_true] at g0
  rw [g0] at HLG
  clear g0
  by_cases g1 : (100 < f.size ∨ 100 < b.size) ∨ (n < 0 ∨ 40 < n)
  · have ex : ∃ b1 b2 b3 b4 : Bool, decide ((100 : Int) < (f.size : Int)) = b1 ∧ decide ((100 : Int) < (b.size : Int)) = b2 ∧ decide (n < 0) = b3 ∧ decide (40 < n) = b4 ∧ (b1 || b2 || b3 || b4) = true := by
      refine ⟨_, _, _, _, rfl, rfl, rfl, rfl, ?_⟩
      simp only [Bool.or_eq_true, decide_eq_true_eq]
      omega
    obtain ⟨b1, b2, b3, b4, k1, k2, k3, k4, k5⟩ := ex
    clear g1
    cases b1
    · cases b2
      · cases b3
        · obtain rfl : b4 = true := by simpa using k5
          go_enter Tryz.func3, Tryz.ntmps3
          go_wp2_with fail
          refine HLV.out.mono ?_; rintro e w1 ⟨rfl, hb1⟩
          have y1 := hid hb1; clear hb1
          go_wp2_with fail
          refine (HLG _ (HV.out.call y1.out)).out.mono ?_; rintro e w2 ⟨rfl, rfl⟩
          go_wp2_with fail
          go_ret
          exact ⟨rfl, y1.out⟩
        · clear k4 k5
          go_enter Tryz.func3, Tryz.ntmps3
          go_wp2_with fail
          refine HLV.out.mono ?_; rintro e w1 ⟨rfl, hb1⟩
          have y1 := hid hb1; clear hb1
          go_wp2_with fail
          refine (HLG _ (HV.out.call y1.out)).out.mono ?_; rintro e w2 ⟨rfl, rfl⟩
          go_wp2_with fail
          go_ret
          exact ⟨rfl, y1.out⟩
      · clear k3 k4 k5
        go_enter Tryz.func3, Tryz.ntmps3
        go_wp2_with fail
        refine HLV.out.mono ?_; rintro e w1 ⟨rfl, hb1⟩
        have y1 := hid hb1; clear hb1
        go_wp2_with fail
        refine (HLG _ (HV.out.call y1.out)).out.mono ?_; rintro e w2 ⟨rfl, rfl⟩
        go_wp2_with fail
        go_ret
        exact ⟨rfl, y1.out⟩
    · clear k2 k3 k4 k5
      go_enter Tryz.func3, Tryz.ntmps3
      go_wp2_with fail
      refine HLV.out.mono ?_; rintro e w1 ⟨rfl, hb1⟩
      have y1 := hid hb1; clear hb1
      go_wp2_with fail
      refine (HLG _ (HV.out.call y1.out)).out.mono ?_; rintro e w2 ⟨rfl, rfl⟩
      go_wp2_with fail
      go_ret
      exact ⟨rfl, y1.out⟩
  have t1 : decide ((100 : Int) < (f.size : Int)) = false := by simp; omega
  have t2 : decide ((100 : Int) < (b.size : Int)) = false := by simp; omega
  have t3 : decide (n < 0) = false := by simp; omega
  have t4 : decide (40 < n) = false := by simp; omega
  have HF : Hid (f.size ≤ 100) := hid (by omega)
  have HBZ : Hid (b.size ≤ 100) := hid (by omega)
  obtain ⟨k, hk, hP⟩ := k_Pick w many 64 (by omega) (by omega) hm1 hm2
  have HP := fun V => (k_Pick V many 64 (by omega) (by omega) hm1 hm2)
  clear hP hk k
  have HN40 : Hid (0 ≤ n ∧ n ≤ 40) := hid (by omega)
  clear g1 hf hb hn1 hn2 hm1 hm2
  go_enter Tryz.func3, Tryz.ntmps3
  go_wp2_with fail
  refine HLV.out.mono ?_; rintro e w1 ⟨rfl, hb1⟩
  have y1 := hid hb1; clear hb1
  go_wp2_with fail
  refine (HLG _ (HV.out.call y1.out)).out.mono ?_; rintro e w2 ⟨rfl, rfl⟩
  go_wp2_with fail
  obtain ⟨k, hk, hP⟩ := HP w1
  refine hP.mono ?_; rintro e w2 ⟨rfl, rfl⟩
  have hmk : ∀ W, (Instr.makeSlice 22 (.int .i64 (1 + (k : Int))) (.int .i64 (1 + (k : Int)))).run Tryz.prog W = .ok (.slice (some ⟨W.heap.size, 0, none⟩) (k + 1) (k + 1)) (W.alloc (.cells (madeCells #[.string ⟨#[]⟩] (k + 1)) 23)) := fun W => by
    have := make_nums (k + 1) (by omega) W
    rw [show ((k + 1 : Nat) : Int) = 1 + (k : Int) by omega] at this
    exact this
  clear hP HP
  go_wp2_with fail
  have X1 := hid (Blk.new w1 (madeCells #[.string ⟨#[]⟩] (k + 1)) 23)
  rw [fillA_zero] at X1
  have B1 := hid ((Below.refl w1.heap.size w1).alloc (Nat.le_refl _) (.cells (madeCells #[.string ⟨#[]⟩] (k + 1)) 23))
  obtain ⟨W0, hW0⟩ : ∃ W0, w1.alloc (.cells (fillA 0 (k + 1)) 23) = W0 := ⟨_, rfl⟩
  rw [fillA_zero] at B1 ⊢
  rw [hW0] at X1 B1 ⊢
  obtain ⟨g, hg⟩ : ∃ g, w1.heap.size = g := ⟨_, rfl⟩
  rw [hg] at X1 ⊢
  have GE : Hid (w.heap.size ≤ g) := by rw [← hg]; exact y1.out.size
  have B0 := hid (bnext y1.out B1.out)
  clear hW0 hg B1
  go_loopw [12] (fun s12 wr => ∃ j : Nat, s12 = .int .i64 (j : Nat) ∧ j ≤ k + 1 ∧ Hid (Blk wr g (fillA j (k + 1)) 23) ∧ Hid (Below w.heap.size w wr)) (fun s12 wr => k + 1 - (intOf s12).toNat)
  case atStart => exact ⟨0, rfl, Nat.zero_le _, X1, B0⟩
  case round =>
    obtain ⟨j, rfl, hj, hX, hB⟩ := hrel
    by_cases hlt : j < k + 1
    · have e0 := hX.out.free j
      obtain ⟨x, hx⟩ : ∃ x, wr.cell? ⟨g, j, none⟩ = some x := by
        rw [hX.out.cell]
        exact ⟨_, Array.getElem?_eq_getElem (by simp [fillA]; omega)⟩
      have wi : IntKind.i64.wrap ((j : Int) + 1) = ((j + 1 : Nat) : Int) := by rw [IntWalk.i64_in _ ⟨by omega, by omega⟩]; omega
      have b1 : (0 : Int) ≤ (j : Int) := by omega
      have b2 : (j : Int) < (k : Int) + 1 := by omega
      have z1 := hid (hX.out.set j (.string ⟨#[49]⟩))
      rw [fillA_set hlt] at z1
      have z2 := hid (below_set hB.out (i := j) GE.out (.string ⟨#[49]⟩))
      go_wp2_with fail
      go_roundw
      case rel => exact ⟨j + 1, rfl, by omega, z1, z2⟩
      case measure => simp [intOf] <;> omega
    · obtain rfl : j = k + 1 := by omega
      have q1 : decide (((k + 1 : Nat) : Int) < ((k + 1 : Nat) : Int)) = false := by simp
      have RS := hid (fillA_row hX.out (by omega))
      have onz : ∀ x ∈ onesL (k + 1), x.size ≤ 1000000 := fun x hx => by
        obtain ⟨y, hy, rfl⟩ := List.mem_map.1 hx
        rw [List.eq_of_mem_replicate hy, numB_size, nDigits_one]; omega
      have hbz : b.size ≤ 100000000 := by have := HBZ.out; omega
      have P1 := hid (p_Draw _ _ _ b RS.out onz hbz (HL.out.call hB.out))
      have P2 := fun V hV => hid (p_Below V ((k + 1 : Nat) : Int) b hbz hV)
      obtain ⟨o1, o2⟩ := ones_draw (k := k + 1) (by omega) (by omega) b
      rw [o1, o2] at P1
      generalize bwE ((k + 1 : Nat) : Int) b = oe at *
      generalize bw3 ((k + 1 : Nat) : Int) b = od at *
      obtain ⟨d1, d2, d3⟩ := od
      simp only [dw3] at P1 P2
      rw [show ((k + 1 : Nat) : Int) = (k : Int) + 1 by omega] at P2
      clear hlt onz hbz o1 o2
      go_wp2_with fail
      refine P1.out.mono ?_; rintro e w3 ⟨rfl, hb3⟩
      have B3 := hid (bnext hB.out hb3)
      have X3 := hid (Blk.new w3 #[.bool d1, .int .i64 (d2 : Nat), .int .i64 (d3 : Nat)] 29)
      have B4 := hid (B3.out.alloc B3.out.size (.cells #[.bool d1, .int .i64 (d2 : Nat), .int .i64 (d3 : Nat)] 29))
      clear hb3
      go_wp2_with fail
      refine (P2 _ (HL.out.call B4.out)).out.mono ?_; rintro e w5 ⟨rfl, hb5⟩
      have B5 := hid (bnext B4.out hb5)
      have X5 := hid (X3.out.call hb5)
      have X6 := hid (X5.out.alloc (.cells #[.bool d1, .int .i64 (d2 : Nat), .int .i64 (d3 : Nat)] 29))
      have B6 := hid (B5.out.alloc B5.out.size (.cells #[.bool d1, .int .i64 (d2 : Nat), .int .i64 (d3 : Nat)] 29))
      have r0 := X6.out.cell 0
      have r1 := X6.out.cell 1
      have r2 := X6.out.cell 2
      simp at r0 r1 r2
      have PCk := fun V => hid (r1_Check V f (by have := HF.out; omega))
      clear hb5 P1 P2
      by_cases hf0 : errN f.data.toList = 0
      · rw [hf0] at PCk
        have HF0 := hid hf0
        clear hf0
        by_cases hfz : f = ⟨#[48]⟩
        · subst hfz
          go_wp2_with fail
          refine (PCk _).out.mono ?_; rintro e w7 ⟨rfl, rfl⟩
          go_wp2_with fail
          go_ret
          exact ⟨rfl, B6.out⟩
        · have hfz2 := ne_lit hfz
          have HFZ := hid hfz
          clear hfz
          go_wp2_with fail
          refine (PCk _).out.mono ?_; rintro e w7 ⟨rfl, rfl⟩
          go_wp2_with fail
          obtain ⟨fc, hfe, hfd⟩ := errN_read HF0.out
          have hfc : 0 < fc := by
            rcases Nat.eq_zero_or_pos fc with e | e
            · exact absurd (by rw [hfe, e, numB_zero]) HFZ.out
            · exact e
          have hfb : bN f = fc := by rw [hfe, bN_num]
          have hf100 : nDigits fc ≤ 100 := by have := HF.out; rw [hfe, numB_size] at this; exact this
          have HFC := hid hfc; have HFB := hid hfb; have HF100 := hid hf100
          obtain ⟨i0, hi, hz0, hz1, hz2⟩ := info_parts info_num
          clear hfe hfd hfc hfb hf100 hfz2 r0 r1 r2
          go_loopw [17, 18] (fun s17 s18 wr => ∃ i : Nat, s18 = .int .i64 (i : Nat) ∧ i ≤ N ∧ Hid (ScI l fc i) ∧ Hid (wr.ownsRow w.heap.size 23 1 s17 i (strs ((scB l fc).take i))) ∧ Hid (Below w.heap.size w wr)) (fun s17 s18 wr => N - (intOf s18).toNat)
          case atStart => exact ⟨0, rfl, Nat.zero_le _, fun j hj => absurd hj (by omega), ⟨rfl, .inl ⟨rfl, rfl⟩⟩, B6.out⟩
          case round =>
            obtain ⟨i, rfl, hi2, hS, hO, hB⟩ := hrel
            by_cases hlt : i < N
            · obtain ⟨x, hx⟩ : ∃ x, l[i]? = some x := ⟨_, List.getElem?_eq_getElem (by rw [HN.out]; exact hlt)⟩
              have hxs := (longB_no HG0.out).1 x (List.mem_of_getElem? hx)
              obtain ⟨g', o, rfl, hg', hc⟩ := HV.out.at (strs_get hx)
              have hc2 := (hB.out.cell (p := ⟨g', o + i, none⟩) hg').trans hc
              have HX := hid hx
              have hN70 := (longB_no HG0.out).2
              rw [HN.out] at hN70
              have b1 : (0 : Int) ≤ (i : Int) := by omega
              have b2 : (i : Int) < (N : Int) := by omega
              have wi : IntKind.i64.wrap ((i : Int) + 1) = ((i + 1 : Nat) : Int) := by rw [IntWalk.i64_in _ ⟨by omega, by omega⟩]; omega
              have PM := fun V => hid (r1_Mul V x f (by omega) (by have := HF.out; omega))
              by_cases he : opE (· * ·) x.data.toList f.data.toList = 0
              · obtain ⟨k1, k2, k3⟩ := opE_zero HF0.out he
                rw [HFB.out] at k2 k3
                rw [he, k3] at PM
                have hS2 : Hid (ScI l fc (i + 1)) := fun j hj => by
                  rcases Nat.lt_or_ge j i with h | h
                  · exact hS.out j h
                  · obtain rfl : j = i := by omega
                    exact ⟨x, HX.out, k1, k2⟩
                have hR : (scB l fc)[i]? = some (numB (bN x * fc)) := by unfold scB; rw [List.getElem?_map, HX.out]; rfl
                obtain ⟨R, hR2⟩ : ∃ R, numB (bN x * fc) = R := ⟨_, rfl⟩
                rw [hR2] at PM hR
                have HR := hid hR
                clear he k1 k2 k3 hR hR2 hc hg' hx hxs
                go_wp2_with fail
                refine (PM _).out.mono ?_; rintro e w8 ⟨rfl, hb8⟩
                have B8 := hid (hB.out.trans (hb8.mono hB.out.size))
                have O8 := hid (owns_call hO.out hb8)
                clear hb8
                go_wp2_with (at_builtin; refine wpList_append_own _ rfl _ _ 22 rfl w.heap.size 23 i0 (.string ⟨#[]⟩) 1 16 Tryz.underlying22 hi hz0 hz1 hz2 rfl (by decide) _ i _ rfl (O8.out.alloc _) ⟨w8.heap.size, 0, none⟩ 1 1 [.string R] rfl rfl (cell_one_new w8 (.string R) 23) (by simp [Value.oneCell']) (by unfold maxLen; omega) (by omega) (by have := B8.out.size; simp; omega) ?_; intro v' w3 hown3 hgrow3 _)
                have hO3 := hid (show w3.ownsRow w.heap.size 23 1 v' (i + 1) (strs ((scB l fc).take (i + 1))) by
                  rw [List.take_add_one, HR.out, Option.toList_some, strs_append]; exact hown3)
                have hB3 : Hid (Below w.heap.size w w3) := by
                  refine (B8.out.alloc B8.out.size _).trans ⟨hgrow3.os, hgrow3.tape, hgrow3.output, hgrow3.size, fun k hk => hgrow3.block k (by have := B8.out.size; simp; omega) (fun e => ?_)⟩
                  have := (O8.out.lt k e.symm).1
                  omega
                clear hown3 hgrow3
                go_wp2_with fail
                go_roundw
                case rel => exact ⟨i + 1, rfl, by omega, hS2, hO3, hB3⟩
                case measure => simp [intOf] <;> omega
              · obtain ⟨z, hz⟩ : ∃ z, opE (· * ·) x.data.toList f.data.toList = z := ⟨_, rfl⟩
                obtain ⟨zs, hzs⟩ : ∃ z, opS (· * ·) x.data.toList f.data.toList = z := ⟨_, rfl⟩
                rw [hz] at PM he
                rw [hzs] at PM
                have q0 : (z != 0) = true := by simpa using he
                clear hz hzs he hc hg' hx hxs
                go_wp2_with fail
                refine (PM _).out.mono ?_; rintro e w8 ⟨rfl, hb8⟩
                have B8 := hid (hB.out.trans (hb8.mono hB.out.size))
                clear hb8
                go_wp2_with fail
                go_ret
                exact ⟨rfl, B8.out⟩
            · obtain rfl : i = N := by omega
              have q1 : decide ((i : Int) < (i : Int)) = false := by simp
              obtain ⟨k1, k2, k3, k4, k5⟩ := scB_all HG0.out (by rw [HN.out]; exact hS.out) HFC.out HF100.out b n
              have h := hO.out
              rw [List.take_of_length_le (by unfold scB; rw [List.length_map, HN.out]; exact Nat.le_refl _)] at h
              obtain ⟨a7, c7, rfl⟩ := owns_ex h
              have hrow := Row.of_owns h
              have HROW := hid hrow
              have hl1 := fun x hx => Nat.le_trans ((longB_no HG0.out).1 x hx) (by omega : 300 ≤ 1000000)
              have hbz : b.size ≤ 100000000 := by have := HBZ.out; omega
              have P1 := fun V v hV hLV => hid (p_Draw V v l b hV hl1 hbz hLV)
              have P2 := fun V v hV hLV => hid (p_Draw V v _ b hV k5 hbz hLV)
              have P3 := fun V v hV hLV => hid (p_Law V v l n hV hl1 hLV)
              have P4 := fun V v hV hLV => hid (p_Law V v _ n hV k5 hLV)
              rw [k1, k2] at P2
              rw [k3, k4] at P4
              generalize drE l b = e1 at *
              generalize dr3 l b = f1 at *
              generalize lawE l n = e2 at *
              generalize lawR l n = f2 at *
              obtain ⟨p1, p2, p3⟩ := f1
              simp only [dw3] at P1 P2
              clear hlt k1 k2 k3 k4 k5 h hrow hl1 hbz hi hz0 hz1 hz2
              go_wp2_with fail
              refine (P1 _ _ (HV.out.call hB.out) (HL.out.call hB.out)).out.mono ?_; rintro e w8 ⟨rfl, hb8⟩
              have B8 := hid (bnext hB.out hb8)
              have R8 := hid (HROW.out.call hb8)
              have X8 := hid (Blk.new w8 #[.bool p1, .int .i64 (p2 : Nat), .int .i64 (p3 : Nat)] 29)
              have A8 := hid ((Below.refl w8.heap.size w8).alloc (Nat.le_refl _) (.cells #[.bool p1, .int .i64 (p2 : Nat), .int .i64 (p3 : Nat)] 29))
              have D8 := hid (bnext B8.out A8.out)
              clear hb8
              go_wp2_with fail
              refine (P2 _ _ (R8.out.call A8.out) (HL.out.call D8.out)).out.mono ?_; rintro e w9 ⟨rfl, hb9⟩
              have X9 := hid ((X8.out.call hb9).alloc (.cells #[.bool p1, .int .i64 (p2 : Nat), .int .i64 (p3 : Nat)] 29))
              have Y9 := hid (Blk.new w9 #[.bool p1, .int .i64 (p2 : Nat), .int .i64 (p3 : Nat)] 29)
              have A9 := hid ((Below.refl w9.heap.size w9).alloc (Nat.le_refl _) (.cells #[.bool p1, .int .i64 (p2 : Nat), .int .i64 (p3 : Nat)] 29))
              have D9 := hid (bnext (bnext D8.out hb9) A9.out)
              have R9 := hid (((R8.out.call A8.out).call hb9).call A9.out)
              have L9 := hid (show w8.heap.size < w9.heap.size from (X8.out.call hb9).lt)
              clear hb9
              go_wp2_with fail
              refine (P3 _ _ (HV.out.call D9.out) (HL.out.call D9.out)).out.mono ?_; rintro e w10 ⟨⟨u10, rfl, hu10⟩, hb10⟩
              have D10 := hid (bnext D9.out hb10)
              have U10 := hid hu10
              have X10 := hid (X9.out.call hb10)
              have Y10 := hid (Y9.out.call hb10)
              have R10 := hid (R9.out.call hb10)
              clear hb10 hu10
              go_wp2_with fail
              refine (P4 _ _ R10.out (HL.out.call D10.out)).out.mono ?_; rintro e w11 ⟨⟨u11, rfl, hu11⟩, hb11⟩
              have D11 := hid (bnext D10.out hb11)
              have U11 := hid hu11
              have V11 := hid (U10.out.call hb11)
              have X11 := hid (X10.out.call hb11)
              have Y11 := hid (Y10.out.call hb11)
              have r0 := X11.out.cell 0
              have r1 := X11.out.cell 1
              have r2 := X11.out.cell 2
              have r3 := Y11.out.cell 0
              have r4 := Y11.out.cell 1
              have r5 := Y11.out.cell 2
              simp at r0 r1 r2 r3 r4 r5
              have PSm := hid (k_SameM w11 u10 u11 _ _ V11.out U11.out)
              rw [decide_eq_true rfl] at PSm
              clear hb11 hu11
              go_wp2_with fail
              refine PSm.out.mono ?_; rintro e w12 ⟨rfl, hb12⟩
              have D12 := hid (bnext D11.out hb12)
              clear hb12
              go_wp2_with fail
              go_ret
              exact ⟨rfl, D12.out⟩
      · obtain ⟨z, hz⟩ : ∃ z, errN f.data.toList = z := ⟨_, rfl⟩
        rw [hz] at PCk hf0
        have q0 : (z != 0) = true := by simpa using hf0
        clear hz hf0
        go_wp2_with fail
        refine (PCk _).out.mono ?_; rintro e w7 ⟨rfl, rfl⟩
        go_wp2_with fail
        go_ret
        exact ⟨rfl, B6.out⟩
end Go.Proofs.YtjgcjjbnnlnilaaGreatDoor

/- PickScaled: the row and the tied card: for every input the law answers true; conditions: none beyond the row's own. -/
namespace Go.Proofs.YtjgcjjbnnlnilaaGreatDoor
open Go.ChangeShapes Go.WideShapes Go.ChangeAt Go.RowKit
open Go.ChangeMaps (open_string shut_string)
set_option linter.unusedVariables false

set_option maxRecDepth 100000 in
set_option maxHeartbeats 1000000 in
theorem pickScaled_lifted (os : Os) (started : os.Started) (H : Type) (enc : TypeId × Value → H) (F : Stop.Interp) :
    ReturnsInHanded {} Tryz.checked os 3 .any ((OpenSpec.ofChange Rows.pickScaledSpec).preRow enc Tryz.prog Tryz.f3 Rows.pickScaledRow.domain false Rows.pickScaledRow.laid)
      (((OpenSpec.ofChange Rows.pickScaledSpec).at F).post enc Tryz.prog Tryz.f3 false true false false) := by
  refine returnsInHanded_of_row (C := Tryz.checked) (s := OpenSpec.ofChange Rows.pickScaledSpec) own started (by kernel_rfl) Tryz.func3
    (ChangeSpec.witness_shaped (enc := enc) (C := Tryz.checked) (os := os) (s := Rows.pickScaledSpec) (conds := Rows.pickScaledRow.domain) (fn := Tryz.f3) (X := fun w _ => laidMetH Tryz.prog Rows.pickScaledRow.laid w) false (World.laidAll Tryz.prog os Rows.pickScaledRow.laid) #[.slice none 0 0, .string ByteArray.empty, .string ByteArray.empty, .int .i64 0, .int .i64 0] 8 (World.laidAll_os _ _ _)
      (World.shaped_of_ZipB (by kernel_rfl) (by kernel_rfl)) (by kernel_rfl) (by kernel_rfl) (by kernel_rfl)
      (by rw [MakeChecks.laidMetH_plain _ _ _ (by kernel_rfl)]; exact laidMet_laidAll _ (by kernel_rfl) (by kernel_rfl))) ?_
  intro W base args ds gs before hval0 hW _ _ _ hL hsh _
  have hval : ∀ (j : Nat) t v, Tryz.f3.params[j]? = some t → args[j]? = some v → Value.okWide Tryz.prog W .any base t v := hval0
  have hW' := hW
  obtain ⟨p, q, hA0, hV, rfl, hfz, hnd⟩ := hW
  have hA : DataW.TrodAll enc Tryz.prog W 0 (fun _ => true) true Tryz.f3.params.toList args.toList ds p := hA0
  rw [Tryz.params3] at hA hval
  obtain ⟨v0, vs0, d0, ds0, p0, q0, hargs, rfl, rfl, h0, r0⟩ := trodAll_cons hA
  obtain ⟨v1, vs1, d1, ds1, p1, q1, rfl, rfl, rfl, h1, r1⟩ := trodAll_cons r0
  obtain ⟨v2, vs2, d2, ds2, p2, q2, rfl, rfl, rfl, h2, r2⟩ := trodAll_cons r1
  obtain ⟨v3, vs3, d3, ds3, p3, q3, rfl, rfl, rfl, h3, r3⟩ := trodAll_cons r2
  obtain ⟨v4, vs4, d4, ds4, p4, q4, rfl, rfl, rfl, h4, r4⟩ := trodAll_cons r3
  obtain ⟨rfl, rfl, rfl⟩ := trodAll_nil r4
  obtain rfl : args = #[v0, v1, v2, v3, v4] := by cases args; simp_all
  obtain ⟨rfl, rfl⟩ := trodVars_none hV
  have k0 := h0
  have lt0 : ∀ x ∈ p0, x.block < W.heap.size := by obtain ⟨m, hm⟩ := k0; exact DataW.trod_lt m _ _ _ hm
  have k1 := h1
  have lt1 : ∀ x ∈ p1, x.block < W.heap.size := by obtain ⟨m, hm⟩ := k1; exact DataW.trod_lt m _ _ _ hm
  have k2 := h2
  have lt2 : ∀ x ∈ p2, x.block < W.heap.size := by obtain ⟨m, hm⟩ := k2; exact DataW.trod_lt m _ _ _ hm
  have k3 := h3
  have lt3 : ∀ x ∈ p3, x.block < W.heap.size := by obtain ⟨m, hm⟩ := k3; exact DataW.trod_lt m _ _ _ hm
  have k4 := h4
  have lt4 : ∀ x ∈ p4, x.block < W.heap.size := by obtain ⟨m, hm⟩ := k4; exact DataW.trod_lt m _ _ _ hm
  obtain ⟨l0, R0, Z0⟩ := open_txts Tryz.underlying22 Tryz.underlying23 (by kernel_rfl) (hval 0 22 v0 rfl rfl) h0
  obtain ⟨a1, rfl, rfl, rfl, w1⟩ := open_string Tryz.underlying23 (hval 1 23 v1 rfl rfl) h1
  have z1 : a1.size ≤ 9223372036854775807 := by unfold maxLen at w1; omega
  obtain ⟨a2, rfl, rfl, rfl, w2⟩ := open_string Tryz.underlying24 (hval 2 24 v2 rfl rfl) h2
  have z2 : a2.size ≤ 9223372036854775807 := by unfold maxLen at w2; omega
  obtain ⟨a3, rfl, rfl, rfl, w3⟩ := open_int Tryz.underlying3 (hval 3 3 v3 rfl rfl) h3
  have b3 := bounds_i64 w3
  obtain ⟨a4, rfl, rfl, rfl, w4⟩ := open_int Tryz.underlying3 (hval 4 3 v4 rfl rfl) h4
  have b4 := bounds_i64 w4
  clear hA0 hval0
  refine (w_PickScaled W v0 l0 a1 a2 a3 a4 R0 z1 z2 b3.1 b3.2 b4.1 b4.2 (lay_of hL hsh)).mono fun e W' ⟨he, bel⟩ => ?_
  subst he
  exact ⟨_, rfl, _, _, _, [], _, [], hW', trodAll_mk1 (shut_bool Tryz.underlying4 _), (trodAll_cons_mk (Below.trod laidOut (by kernel_rfl) (of_decide_eq_true (by kernel_rfl)) k0 bel lt0) (trodAll_cons_mk (Below.trod laidOut (by kernel_rfl) (of_decide_eq_true (by kernel_rfl)) k1 bel lt1) (trodAll_cons_mk (Below.trod laidOut (by kernel_rfl) (of_decide_eq_true (by kernel_rfl)) k2 bel lt2) (trodAll_cons_mk (Below.trod laidOut (by kernel_rfl) (of_decide_eq_true (by kernel_rfl)) k3 bel lt3) (trodAll_cons_mk (Below.trod laidOut (by kernel_rfl) (of_decide_eq_true (by kernel_rfl)) k4 bel lt4) trodAll_mk0))))), rfl, bel.frame _, fun h => by cases h⟩

theorem pickScaled_holds : Rows.pickScaledRow.holds Tryz.pinned (OpenSpec.ofChange Rows.pickScaledSpec) :=
  OpenClaim.holds_of_cond 3 Tryz.f3 rfl rfl rfl rfl rfl rfl rfl ⟨rfl, rfl, rfl, rfl, rfl⟩ rfl rfl rfl rfl rfl (by kernel_rfl) Tryz.func3 (by kernel_rfl)
    (of_decide_eq_true (by kernel_rfl)) (by unfold Func.isWrapper; first | (rw [if_pos (by decide +kernel)]; kernel_rfl) | (rw [if_neg (by decide +kernel)]; exact ⟨rfl, rfl⟩))
    (fun os started H enc _ F0 => by rw [OpenClaim.pre_eq_preRow]; exact pickScaled_lifted os started H enc F0)

theorem pickScaled_card : Rows.PickScaledCardSaid :=
  Claim7.holds_tied_plain_at .later [] [.data, .data, .data, .data, .sentinel, .sentinel, .pinned] true Rows.pickScaledCard.stood.harness true
    pickScaled_holds (fun _ h => by cases h) (by kernel_rfl) (fun _ h => by cases h) pickScaled_row_tie rfl ⟨rfl, rfl⟩ (by kernel_rfl) rfl
    (fun f fn hf hfn => by
      obtain rfl : f = 3 := Option.some.inj ((show Tryz.prog.funcNamed "privhouse/privhouselaw05.PickScaled" = some 3 by kernel_rfl).symm.trans hf) |>.symm
      obtain rfl : fn = Tryz.f3 := (Option.some.inj (Tryz.func3.symm.trans hfn)).symm
      exact ⟨by kernel_rfl, fun j t ht => by
        rw [Tryz.params3] at ht
        have hm : t ∈ [22, 23, 24, 3, 3] := by simpa using Array.mem_of_getElem? ht
        have hall : ([22, 23, 24, 3, 3].all fun u => !Tryz.prog.wantsStandIn u) = true := by kernel_rfl
        exact (show Tryz.prog.wantsStandIn t = false by simpa using List.all_eq_true.1 hall t hm)⟩)
    (by kernel_rfl)
#print axioms pickScaled_card
end Go.Proofs.YtjgcjjbnnlnilaaGreatDoor
