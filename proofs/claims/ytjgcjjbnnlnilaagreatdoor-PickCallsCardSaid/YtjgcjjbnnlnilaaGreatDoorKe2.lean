/- Walks: the reference's Read. -/
import Derived.Test.YtjgcjjbnnlnilaaGreatDoorKe1
import Derived.Laws.IdiomStrings
import Derived.WalkSpells
import Derived.Laws.Concat
import Derived.Lib.IndexMore
import Derived.Lib.Strings
import Derived.OwnWalk
import Derived.IntWalk
import Derived.RangeFuncNested
import Derived.RangeFuncBound
import Derived.RangeFuncCalls
import Derived.RangeFuncLeaves
import Derived.Sort.BigQuietIn
import Derived.RangeFuncBox
import Derived.Shelf.Abstract
import Derived.Shelf.RegionOpen
import Derived.OwnWalkIn
import Derived.TacticsInMore
import Derived.LoopNIn
import Derived.LoopIn
namespace Go.Proofs.YtjgcjjbnnlnilaaGreatDoor
open Go.RowKit
set_option linter.unusedVariables false

set_option maxRecDepth 100000 in
set_option maxHeartbeats 2000000 in
theorem r1_Read (w : World) (s : ByteArray) (hd : allDig s.data.toList) (hs : s.size ≤ 1000000) :
    Calls Tryz.prog 55 #[.string s] w fun e w' => RetN .i64 (dv s.data.toList) e w' ∧ Below w.heap.size w w' := by
  obtain ⟨i0, hi, hz0, hz1, hz2⟩ := info_parts info_int
  have HD := hid hd; clear hd
  have hsl := hid (show s.data.toList.length = s.size from by simp)
  go_enter Tryz.func55, Tryz.ntmps55
  go_wp2_with fail
  go_loopw [3, 4, 5, 6] (fun o ee nn ii wr => ∃ (l : List Nat) (t : Int) (e : Nat), ee = .int .i64 t ∧ t ≤ s.size ∧ -9 < t ∧ e = t.toNat ∧ l.length ≤ s.size ∧ l.length + e ≤ s.size ∧ Hid (ReadI s.data.toList e l) ∧ Hid (wr.ownsRow w.heap.size 3 1 o l.length (ints .i64 l)) ∧ Hid (Below w.heap.size w wr))
    (fun _ ee _ _ _ => (intOf ee).toNat)
  case atStart => exact ⟨[], _, s.size, rfl, by omega, by omega, by simp, by simp, by simp, by have := ReadI.start s.data.toList; rw [hsl.out] at this; exact this, World.ownsRow_nil _ _ _ _, Below.refl _ _⟩
  case round =>
    obtain ⟨l, t, e, rfl, ht1, ht2, he, hl1, hl2, hR, hO, hB⟩ := hrel
    obtain ⟨ao, co, rfl⟩ := owns_ex hO.out
    by_cases h0 : e = 0
    · have q0 : decide ((0 : Int) < t) = false := by simp; omega
      subst h0
      have hv := hid hR.out.done
      clear he
      go_wp2_with fail
      refine (r1_trim _ _ l hR.out.sm (Row.of_owns hO.out)).mono ?_
      rintro e w1 ⟨⟨v1, rfl, hv1⟩, rfl⟩
      go_wp2_with fail
      go_ret
      exact ⟨⟨v1, rfl, by rw [← hv.out]; exact hv1⟩, hB.out⟩
    · obtain rfl : t = (e : Int) := by omega
      clear he
      have q0 : decide ((0 : Int) < (e : Int)) = true := by simp; omega
      obtain ⟨L, hL⟩ : ∃ L, s.data.toList = L := ⟨_, rfl⟩
      obtain ⟨s0, hs0⟩ : ∃ s0, s0 = e - 9 := ⟨_, rfl⟩
      have HS0 := hid hs0
      have h3 : s0 ≤ e := by omega
      have h4 : e ≤ s0 + 9 := by omega
      have hI : (9 < e ∧ (e : Int) - 9 = (s0 : Int)) ∨ (e ≤ 9 ∧ (0 : Int) = (s0 : Int)) := by omega
      clear hs0
      rcases hI with ⟨h9, hse⟩ | ⟨h9, hse⟩
      all_goals
        have HSE := hid hse
        clear hse
        go_wp2_with fail
        go_loop [5, 6] (fun nn ii => ∃ (i x : Nat), ii = .int .i64 i ∧ nn = .int .i64 x ∧ s0 ≤ i ∧ i ≤ e ∧ x < 1000000000 ∧ Hid (x = dv ((L.drop s0).take (i - s0)))) (fun _ ii => e - (intOf ii).toNat)
        case atStart => exact ⟨s0, 0, by have hh := HSE.out; first | (rw [← hh]; done) | (congr 1; omega), rfl, Nat.le_refl _, h3, by omega, by simp [Hid]⟩
        case round =>
          obtain ⟨i, x, rfl, rfl, hi1, hi2, hx, hxd⟩ := hrel
          by_cases hlt : i < e
          · have hsz : i < s.size := by omega
            have hb := byte_get hsz
            rw [hL] at hb
            have hdig := isDig_iff.1 (HD.out s[i] (List.mem_of_getElem? (by rw [hL]; exact hb)))
            have hd1 := hdig.1; have hd2 := hdig.2
            have hcs := hid (chunk_succ hb hi1)
            have hlt9 := hid (chunk_lt (L := L) (a := s0) (k := i + 1 - s0) (by rw [← hL]; exact HD.out) (by omega))
            clear hb hdig
            go_wp2_with fail
            go_round
            case rel =>
              refine ⟨i + 1, 10 * x + (s[i].toNat - 48), by go_num, ?_, by omega, by omega, ?_, ?_⟩
              · congr 1; omega
              · have := hlt9.out; rw [hcs.out, ← hxd.out] at this; exact this
              · rw [Hid, hcs.out, ← hxd.out]
            case measure => simp [intOf] <;> omega
          · obtain rfl : i = e := by omega
            have HN := hid (hR.out.next HD.out)
            rw [hL, ← HS0.out, ← hxd.out] at HN
            go_wp2_with (at_builtin; refine wpList_append_own _ rfl _ _ 77 rfl w.heap.size 3 i0 (.int .i64 0) 1 8 Tryz.underlying77 hi hz0 hz1 hz2 rfl (by decide) _ l.length _ rfl (hO.out.alloc _) ⟨wr.heap.size, 0, none⟩ 1 1 [.int .i64 (x : Int)] rfl rfl (cell_one_new wr (.int .i64 (x : Int)) 3) (by simp [Value.oneCell']) (by unfold maxLen; omega) (by omega) (by have := hB.out.size; simp; omega) ?_; intro v' w3 hown3 hgrow3 _; have HO3 := hid hown3; have HG3 := hid hgrow3; clear hown3 hgrow3)
            obtain ⟨n1, n2⟩ := own_next hO.out hB.out HO3.out HG3.out
            have N1 := hid n1; have N2 := hid n2; clear n1 n2 HO3 HG3
            obtain ⟨a3, k3, rfl⟩ := owns_ex N1.out
            have hS := HS0.out
            go_wp2_with fail
            go_roundw
            case rel => exact ⟨l ++ [x], _, s0, rfl, by omega, by omega, by omega, by simp <;> omega, by simp <;> omega, by rw [hL]; exact HN, N1, N2⟩
            case measure => simp [intOf] <;> omega
end Go.Proofs.YtjgcjjbnnlnilaaGreatDoor

/- Plain words: the results of operations on texts of natural numbers. -/
namespace Go.Proofs.YtjgcjjbnnlnilaaGreatDoor
open Go.RowKit
open Go.Lib (decDigits nDigits)

/-- A call gives back the decimal text of n. -/
def numV (n : Nat) : Value := .string ⟨(decDigits n).toArray⟩

/-- The result of an operation on natural numbers: the text and the error (ErrOver). -/
def resS (n : Nat) : Value := if 4000 < nDigits n then .string ⟨#[]⟩ else numV n
def resE (n : Nat) : Int := if 4000 < nDigits n then 5 else 0

theorem resS_long {n : Nat} (h : 4000 < nDigits n) : resS n = .string ⟨#[]⟩ := by rw [resS, if_pos h]
theorem resS_ok {n : Nat} (h : ¬ 4000 < nDigits n) : resS n = numV n := by rw [resS, if_neg h]
theorem resE_long {n : Nat} (h : 4000 < nDigits n) : resE n = 5 := by rw [resE, if_pos h]
theorem resE_ok {n : Nat} (h : ¬ 4000 < nDigits n) : resE n = 0 := by rw [resE, if_neg h]

/-- An operation on two texts of natural numbers. -/
def opS (f : Nat → Nat → Nat) (s t : List UInt8) : Value := if errN s = 0 ∧ errN t = 0 then resS (f (dv s) (dv t)) else .string ⟨#[]⟩
def opE (f : Nat → Nat → Nat) (s t : List UInt8) : Int := if errN s = 0 then (if errN t = 0 then resE (f (dv s) (dv t)) else errN t) else errN s

theorem ret_pair {a b : Value} {x y : Int} {k : IntKind} (h1 : a = b) (h2 : x = y) : Ending.returned (.tuple #[a, .int k x]) = .returned (.tuple #[b, .int k y]) := by rw [h1, h2]

/-- The bytes of a numeral. -/
def numB (n : Nat) : ByteArray := ⟨(decDigits n).toArray⟩
theorem numV_eq (n : Nat) : numV n = .string (numB n) := rfl
theorem numB_size (n : Nat) : (numB n).size = nDigits n := by
  unfold numB ByteArray.size
  simp [Go.Lib.decDigits_length]
theorem numB_list (n : Nat) : (numB n).data.toList = decDigits n := by simp [numB]

theorem nDigits_bound {n L : Nat} (h : (limbs n).length ≤ L) (hL : 0 < L) : nDigits n ≤ 9 * L := by
  refine nDigits_le (by omega) ?_
  have := limbs_length_le.1 h
  rwa [show (1000000000 : Nat) = 10 ^ 9 by rfl, ← Nat.pow_mul] at this

/-- The comparison of two texts. -/
def cmpN (s t : List UInt8) : Int := if errN s = 0 ∧ errN t = 0 then ordN (dv s) (dv t) else 0

end Go.Proofs.YtjgcjjbnnlnilaaGreatDoor

/- Walks: the reference's Write. -/
namespace Go.Proofs.YtjgcjjbnnlnilaaGreatDoor
open Go.RowKit
open Go.Lib (decDigits nDigits)
set_option linter.unusedVariables false

theorem make_bytes (n : Nat) (hn : n ≤ 100000000) (W : World) : (Instr.makeSlice 100 (.int .i64 (n : Int)) (.int .i64 (n : Int))).run Tryz.prog W = .ok (.slice (some ⟨W.heap.size, 0, none⟩) n n) (W.alloc (.cells (madeCells #[.int .u8 0] n) 5)) :=
  run_make_row' (P := Tryz.prog) 100 5 (.int .u8 0) 1 Tryz.underlying100 (by kernel_rfl) rfl .i64 .i64 n (by omega) (by omega) W

theorem r1_Write_zero (w : World) (v : Value) (h : IsN .i64 w v 0) : Calls Tryz.prog 62 #[v] w fun e w' => e = .returned (numV 0) ∧ Below w.heap.size w w' := by
  obtain ⟨a, c, rfl, _⟩ := h.openI
  have hl : (limbs 0).length = 0 := by rw [limbs_zero]; rfl
  rw [hl]
  have e : numV 0 = .string ⟨#[48]⟩ := by rw [numV, dec_zero]
  have E := hid e
  clear h hl e
  go_enter Tryz.func62, Tryz.ntmps62
  go_wp2_with fail
  go_ret
  exact ⟨by rw [E.out]; rfl, Below.refl _ _⟩

set_option maxRecDepth 100000 in
set_option maxHeartbeats 1000000 in
theorem r1_Write_pos (w : World) (v : Value) (n : Nat) (h : IsN .i64 w v n) (h0 : 0 < n) (hl : (limbs n).length ≤ 1000000) : Calls Tryz.prog 62 #[v] w fun e w' => e = .returned (numV n) ∧ Below w.heap.size w w' := by
  obtain ⟨a, c, rfl, h1, h2, h3⟩ := h.openI
  have H3 := hid h3; clear h3 h
  obtain ⟨L, hL⟩ : ∃ L, (limbs n).length = L := ⟨_, rfl⟩
  have hLp : 0 < L := by rw [← hL]; exact List.length_pos_iff.2 (fun e => by have := limbs_nil.1 e; omega)
  rw [hL] at h1 hl ⊢
  have HL := hid hL; clear hL
  have q0 : ((L : Int) == 0) = false := by simp; omega
  have hmk : ∀ W : World, (Instr.makeSlice 100 (.int .i64 (9 * (L : Int))) (.int .i64 (9 * (L : Int)))).run Tryz.prog W = .ok (.slice (some ⟨W.heap.size, 0, none⟩) (9 * L) (9 * L)) (W.alloc (.cells (madeCells #[.int .u8 0] (9 * L)) 5)) := fun W => by
    have := make_bytes (9 * L) (by omega) W
    rwa [Int.natCast_mul] at this
  go_enter Tryz.func62, Tryz.ntmps62
  go_wp2_with fail
  clear hmk q0
  go_loopw [4, 5, 6] (fun ii nn kk wr => ∃ (i : Nat) (bs : List UInt8), ii = .int .i64 i ∧ i ≤ L ∧ Hid (WrI n i bs) ∧ Hid (BArr 5 wr w.heap.size bs) ∧ Hid (Below w.heap.size w wr)) (fun ii _ _ _ => L - (intOf ii).toNat)
  case atStart => exact ⟨0, _, rfl, Nat.zero_le _, WrI.start n, by rw [HL.out]; exact BArr.made w 5 (9 * L), (Below.refl _ _).alloc (Nat.le_refl _) _⟩
  case round =>
    obtain ⟨i, bs, rfl, hi, hW, hO, hB⟩ := hrel
    by_cases hlt : i < L
    · obtain ⟨x, hx⟩ : ∃ x, (limbs n)[L - 1 - i]? = some x := ⟨_, List.getElem?_eq_getElem (by rw [HL.out]; omega)⟩
      obtain ⟨g, o, rfl, hg, hc⟩ := H3.out _ x hx
      have d1 := (hB.out.cell (p := ⟨g, o + (L - 1 - i), none⟩) hg).trans hc
      have hxl := (sm_limbs n).get hx
      have HX := hid hx; clear hx hc
      go_wp2_with fail
      go_loopw [5, 6] (fun nn kk wq => ∃ (k y : Nat) (t : Int) (bs : List UInt8), nn = .int .i64 y ∧ kk = .int .i64 t ∧ t = (k : Int) - 1 ∧ k ≤ 9 ∧ y < 1000000000 ∧ Hid (WrJ n i x k y bs) ∧ Hid (BArr 5 wq w.heap.size bs) ∧ Hid (Below w.heap.size w wq)) (fun _ kk _ => (intOf kk + 1).toNat)
      case atStart => exact ⟨9, x, _, bs, rfl, rfl, by omega, by omega, hxl, hW.out.enter, hO, hB⟩
      case round =>
        obtain ⟨k, y, t, bs2, rfl, rfl, ht, hk, hy, hJ, hO2, hB2⟩ := hrel
        have hbl := hid (show bs2.length = 9 * L from by rw [hJ.out.len, HL.out])
        cases k with
        | zero =>
          obtain rfl : t = -1 := by omega
          clear ht
          have HN := hid (hJ.out.leave (by rw [HL.out]; exact HX.out) (by rw [HL.out]; exact hlt))
          go_wp2_with fail
          go_roundw
          case rel => exact ⟨i + 1, bs2, by go_num, by omega, HN, hO2, hB2⟩
          case measure => simp [intOf] <;> omega
        | succ k =>
          obtain rfl : t = (k : Int) := by omega
          clear ht
          have HN := hid (hJ.out.next (by omega) (by rw [HL.out]; exact hlt))
          obtain ⟨z, hz⟩ : ∃ z, bs2[9 * i + k]? = some z := ⟨_, List.getElem?_eq_getElem (by rw [hbl.out]; omega)⟩
          have d3 := hO2.out.cell hz
          have d4 := hO2.out.free (9 * i + k)
          clear hz
          go_wp2_with fail
          go_roundw
          case rel =>
            refine ⟨k, y / 10, _, bs2.set (9 * i + k) (UInt8.ofNat (48 + y % 10)), by go_num, rfl, by omega, by omega, by omega, HN, ?_, below_set hB2.out (Nat.le_refl _) _⟩
            have hz : (48 + (y : Int) % 10) = ((UInt8.ofNat (48 + y % 10)).toNat : Int) := by rw [digit_ofNat (by omega)]; omega
            rw [hz]
            exact hO2.out.set _ _
          case measure => simp [intOf] <;> omega
    · obtain rfl : i = L := by omega
      obtain ⟨hdig, hval⟩ := WrI.done (by have := hW.out; rw [← HL.out] at this; exact this)
      have HD := hid hdig; have HV := hid hval
      have hbl := hid (show bs.length = 9 * i from by rw [hW.out.len, HL.out])
      clear hdig hval
      go_wp2_with fail
      go_loop [3] (fun b => ∃ r : Nat, r + 1 ≤ 9 * i ∧ b = .slice (some ⟨w.heap.size, r, none⟩) (9 * i - r) (9 * i - r) ∧ Hid (dv (bs.drop r) = n)) (fun b => match b with | .slice _ m _ => m | _ => 0)
      case atStart => exact ⟨0, by omega, rfl, by rw [Hid, List.drop_zero]; exact HV.out⟩
      case round =>
        obtain ⟨r, hr, rfl, hv⟩ := hrel
        obtain ⟨z, hz⟩ : ∃ z, bs[r]? = some z := ⟨_, List.getElem?_eq_getElem (by rw [hbl.out]; omega)⟩
        have d3 := hO.out.cell hz
        obtain ⟨m, hm⟩ : ∃ m, m = 9 * i - r := ⟨_, rfl⟩
        rw [← hm]
        have hm1 : 1 ≤ m := by omega
        have hm9 : m ≤ 9000000 := by omega
        have HM := hid hm
        by_cases hgo : 1 < m ∧ z = 48
        · obtain ⟨g1, rfl⟩ := hgo
          have q1 : decide ((1 : Int) < (m : Int)) = true := by simp; omega
          have HN := hid (dv_zero_head hz)
          clear hz hm
          go_wp2_with fail
          go_round
          case rel => exact ⟨r + 1, by have := HM.out; omega, by rw [show 9 * i - (r + 1) = m - 1 by have := HM.out; omega], by rw [Hid, HN.out]; exact hv.out⟩
          case measure => simp; omega
        · have hfin := hid (strip_done HD.out hv.out (by rw [hbl.out]; omega) (by
            rw [hbl.out]
            by_cases h1 : 1 < m
            · right
              rw [hz]
              intro e
              injection e with e
              exact hgo ⟨h1, e⟩
            · left; omega))
          have hcv : (convert 100 9 (.slice (some ⟨w.heap.size, r, none⟩) m m)).run Tryz.prog wr = .ok (numV n) wr := by
            have hlen : (bs.drop r).length = m := by rw [List.length_drop, hbl.out, hm]
            have := Go.run_convert_bytes_back (P := Tryz.prog) wr 100 9 5 ⟨w.heap.size, r, none⟩ m (bs.drop r) Tryz.underlying100 Tryz.underlying5 Tryz.underlying9 (fun j hj => by
              rw [Addr.add_lit]
              refine hO.out.cell ?_
              have h2 : r + j < bs.length := by rw [hlen] at hj; rw [hbl.out]; omega
              rw [List.getElem?_eq_getElem h2, List.getElem_drop])
            rw [hlen, hfin.out] at this
            exact this
          by_cases h1 : 1 < m
          · have q1 : decide ((1 : Int) < (m : Int)) = true := by simp; omega
            have q2 : ((z.toNat : Int) == 48) = false := by
              rw [beq_eq_false_iff_ne]
              intro e
              refine hgo ⟨h1, ?_⟩
              have : z.toNat = (48 : UInt8).toNat := by simp; omega
              exact UInt8.toNat_inj.1 this
            clear hz hm hgo h1
            go_wp2_with fail
            go_ret
            exact ⟨rfl, hB.out⟩
          · obtain rfl : m = 1 := by omega
            clear hz hm hgo h1
            go_wp2_with fail
            go_ret
            exact ⟨rfl, hB.out⟩
end Go.Proofs.YtjgcjjbnnlnilaaGreatDoor

/- Walks: the reference's Check. -/
namespace Go.Proofs.YtjgcjjbnnlnilaaGreatDoor
open Go.RowKit
open Go.Lib (decDigits nDigits)
set_option linter.unusedVariables false

set_option maxRecDepth 100000 in
set_option maxHeartbeats 1000000 in
theorem r1_Check (w : World) (s : ByteArray) (hs : s.size ≤ 9223372036854775807) : Calls Tryz.prog 13 #[.string s] w fun e w' => e = .returned (.int .i64 (errN s.data.toList)) ∧ w = w' := by
  have hsl := hid (show s.data.toList.length = s.size from by simp)
  by_cases h0 : s.size = 0
  · have hnil : s.data.toList = [] := List.eq_nil_of_length_eq_zero (by rw [hsl.out, h0])
    obtain rfl : s = ⟨#[]⟩ := by
      cases s with
      | mk d => simp at hnil; rw [hnil]
    clear hsl h0 hnil hs
    go_enter Tryz.func13, Tryz.ntmps13
    go_wp2_with fail
    go_ret
    exact ⟨ret_int (by rw [errN_bad]; exact fun h => h.1 rfl), rfl⟩
  · have hpos : 0 < s.size := by omega
    have hne : s.data.toList.isEmpty = false := by
      rw [List.isEmpty_eq_false_iff]
      intro e
      have := hsl.out; rw [e] at this; simp at this; omega
    have hn : ¬ s.toList = [] := by rw [Go.ByteArray.toList_eq]; intro e; rw [e] at hne; cases hne
    have hn2 : s.toList.isEmpty = false := by rw [Go.ByteArray.toList_eq]; exact hne
    have hb0 := hid (byte_get hpos)
    clear hne
    by_cases hz : s[0] = 48 ∧ 1 < s.size
    · have q1 : ((s[0].toNat : Int) == 48) = true := by rw [hz.1]; rfl
      have q2 : decide ((1 : Int) < (s.size : Int)) = true := by simp; omega
      have hbad := hid (show ¬ isForm s.data.toList from fun h => by
        rcases h.2.1 with h1 | h1
        · have := congrArg List.length h1
          rw [hsl.out] at this; simp at this; omega
        · rw [List.head?_eq_getElem?, hb0.out, hz.1] at h1
          exact h1 rfl)
      clear hz
      go_enter Tryz.func13, Tryz.ntmps13
      go_wp2_with fail
      go_ret
      exact ⟨ret_int (by rw [errN_bad hbad.out]), rfl⟩
    · have hform : allDig s.data.toList → isForm s.data.toList := fun hd => by
        refine ⟨fun e => by have := hsl.out; rw [e] at this; simp at this; omega, ?_, hd⟩
        by_cases h48 : s[0] = 48
        · left
          have h1 : s.data.toList.length = 1 := by
            have : ¬ 1 < s.size := fun h => hz ⟨h48, h⟩
            rw [hsl.out]; omega
          match hm : s.data.toList, h1 with
          | [c], _ =>
            have := hb0.out
            rw [hm] at this
            simp at this
            rw [this, h48]
        · right
          rw [List.head?_eq_getElem?, hb0.out]
          simpa using h48
      have HF := hid hform
      have hI : (((s[0].toNat : Int) == 48) = false ∧ decide ((1 : Int) < (s.size : Int)) = decide ((1 : Int) < (s.size : Int))) ∨ (((s[0].toNat : Int) == 48) = true ∧ decide ((1 : Int) < (s.size : Int)) = false) := by
        by_cases h48 : s[0] = 48
        · right
          have : ¬ 1 < s.size := fun h => hz ⟨h48, h⟩
          refine ⟨by rw [h48]; rfl, by simp; omega⟩
        · left
          refine ⟨?_, rfl⟩
          rw [beq_eq_false_iff_ne]
          intro e
          refine h48 ?_
          have : s[0].toNat = (48 : UInt8).toNat := by simp; omega
          exact UInt8.toNat_inj.1 this
      clear hform hz
      rcases hI with ⟨q1, -⟩ | ⟨q1, q2⟩
      all_goals
        go_enter Tryz.func13, Tryz.ntmps13
        go_wp2_with fail
        clear q1
        go_loop [3] (fun ii => ∃ i : Nat, ii = .int .i64 i ∧ i ≤ s.size ∧ Hid (∀ (j : Nat) (b : UInt8), j < i → s.data.toList[j]? = some b → isDig b = true)) (fun ii => s.size - (intOf ii).toNat)
        case atStart => exact ⟨0, rfl, Nat.zero_le _, fun j b hj => absurd hj (by omega)⟩
        case round =>
          obtain ⟨i, rfl, hi, hI⟩ := hrel
          by_cases hlt : i < s.size
          · have hb := hid (byte_get hlt)
            have hbad : ¬ isDig s[i] = true → ¬ isForm s.data.toList := fun h hf => h (hf.2.2 _ (List.mem_of_getElem? hb.out))
            by_cases c1 : s[i].toNat < 48
            · have q1 : decide ((s[i].toNat : Int) < 48) = true := by simp; omega
              have hB := hid (hbad (fun e => by have := isDig_iff.1 e; omega))
              clear hbad c1
              go_wp2_with fail
              go_ret
              exact ⟨ret_int (by rw [errN_bad hB.out]), rfl⟩
            · by_cases c2 : 57 < s[i].toNat
              · have q1 : decide ((s[i].toNat : Int) < 48) = false := by simp; omega
                have q2 : decide ((57 : Int) < (s[i].toNat : Int)) = true := by simp; omega
                have hB := hid (hbad (fun e => by have := isDig_iff.1 e; omega))
                clear hbad c1 c2
                go_wp2_with fail
                go_ret
                exact ⟨ret_int (by rw [errN_bad hB.out]), rfl⟩
              · have q1 : decide ((s[i].toNat : Int) < 48) = false := by simp; omega
                have q2 : decide ((57 : Int) < (s[i].toNat : Int)) = false := by simp; omega
                have hD := hid (isDig_iff.2 (show 48 ≤ s[i].toNat ∧ s[i].toNat ≤ 57 by omega))
                clear hbad c1 c2
                go_wp2_with fail
                go_round
                case rel => exact ⟨i + 1, by go_num, by omega, fun j b hj hjb => by
                  by_cases e : j = i
                  · subst e; have := hb.out; rw [hjb] at this; cases this; exact hD.out
                  · exact hI.out j b (by omega) hjb⟩
                case measure => simp [intOf] <;> omega
          · obtain rfl : i = s.size := by omega
            have hF := hid (HF.out fun b hb => by
              obtain ⟨j, hj⟩ := List.getElem?_of_mem hb
              exact hI.out j b (by have := (List.getElem?_eq_some_iff.1 hj).1; rw [hsl.out] at this; exact this) hj)
            by_cases hlong : 4000 < s.size
            · have q3 : decide ((4000 : Int) < (s.size : Int)) = true := by simp; omega
              have HL := hid hlong; clear hlong
              go_wp2_with fail
              go_ret
              exact ⟨ret_int (by rw [errN_long hF.out (by rw [hsl.out]; exact HL.out)]), rfl⟩
            · have q3 : decide ((4000 : Int) < (s.size : Int)) = false := by simp; omega
              have HL := hid hlong; clear hlong
              go_wp2_with fail
              go_ret
              exact ⟨ret_int (by rw [errN_ok hF.out (by rw [hsl.out]; exact HL.out)]), rfl⟩
end Go.Proofs.YtjgcjjbnnlnilaaGreatDoor

/- Plain words: digits and limbs. -/
namespace Go.Proofs.YtjgcjjbnnlnilaaGreatDoor
open Go.RowKit
open Go.Lib (decDigits nDigits)

theorem limbs_digits {n K : Nat} (h : nDigits n ≤ 9 * K) : (limbs n).length ≤ K := by
  refine limbs_length_le.2 ?_
  have h1 := Go.Lib.lt_pow_nDigits n
  have h2 : 10 ^ nDigits n ≤ 10 ^ (9 * K) := Nat.pow_le_pow_right (by omega) h
  rw [Nat.pow_mul] at h2
  exact Nat.lt_of_lt_of_le h1 h2

theorem limbs_of_digits {n : Nat} (h : nDigits n ≤ 4000) : (limbs n).length ≤ 445 := limbs_digits (by omega)

theorem limbs_mul {a b p q : Nat} (ha : (limbs a).length ≤ p) (hb : (limbs b).length ≤ q) : (limbs (a * b)).length ≤ p + q := by
  refine limbs_length_le.2 ?_
  have h1 := limbs_length_le.1 ha
  have h2 := limbs_length_le.1 hb
  rw [Nat.pow_add]
  exact Nat.mul_lt_mul'' h1 h2

theorem IsN.cast {k : IntKind} {w : World} {v : Value} {m n : Nat} (h : IsN k w v m) (e : m = n) : IsN k w v n := e ▸ h

theorem nDigits_one : nDigits 1 = 1 := Go.Lib.nDigits_small (by omega)
theorem nDigits_zero : nDigits 0 = 1 := Go.Lib.nDigits_small (by omega)
end Go.Proofs.YtjgcjjbnnlnilaaGreatDoor

/- Walks: the reference's Write (whole); texts that are read. -/
namespace Go.Proofs.YtjgcjjbnnlnilaaGreatDoor
open Go.RowKit
open Go.Lib (decDigits nDigits)
set_option linter.unusedVariables false

theorem r1_Write (w : World) (v : Value) (n : Nat) (h : IsN .i64 w v n) (hl : (limbs n).length ≤ 1000000) : Calls Tryz.prog 62 #[v] w fun e w' => e = .returned (numV n) ∧ Below w.heap.size w w' := by
  rcases Nat.eq_zero_or_pos n with rfl | h0
  · exact r1_Write_zero w v h
  · exact r1_Write_pos w v n h h0 hl

/-- The texts of two numbers that are read. -/
theorem errN_read {s : ByteArray} (h : errN s.data.toList = 0) : ∃ a, s = numB a ∧ nDigits a ≤ 4000 := by
  obtain ⟨a, e, h2⟩ := errN_zero.1 h
  refine ⟨a, ?_, h2⟩
  cases s with
  | mk d =>
    have : d = (decDigits a).toArray := by rw [← e]
    rw [this]; rfl

theorem r1_Read_num (w : World) (a : Nat) (h : nDigits a ≤ 9000) : Calls Tryz.prog 55 #[.string (numB a)] w fun e w' => RetN .i64 a e w' ∧ Below w.heap.size w w' := by
  have := r1_Read w (numB a) (by rw [numB_list]; exact allDig_dec a) (by rw [numB_size]; omega)
  rwa [numB_list, dv_dec] at this
end Go.Proofs.YtjgcjjbnnlnilaaGreatDoor

/- Walks: the reference's FromInt. -/
namespace Go.Proofs.YtjgcjjbnnlnilaaGreatDoor
open Go.RowKit
open Go.Lib (decDigits nDigits)
set_option linter.unusedVariables false

theorem conv_d0 (w : World) : (convert 21 9 (.int .i32 48)).run Tryz.prog w = .ok (.string ⟨#[48]⟩) w := by kernel_rfl
theorem conv_d1 (w : World) : (convert 21 9 (.int .i32 49)).run Tryz.prog w = .ok (.string ⟨#[49]⟩) w := by kernel_rfl
theorem conv_d2 (w : World) : (convert 21 9 (.int .i32 50)).run Tryz.prog w = .ok (.string ⟨#[50]⟩) w := by kernel_rfl
theorem conv_d3 (w : World) : (convert 21 9 (.int .i32 51)).run Tryz.prog w = .ok (.string ⟨#[51]⟩) w := by kernel_rfl
theorem conv_d4 (w : World) : (convert 21 9 (.int .i32 52)).run Tryz.prog w = .ok (.string ⟨#[52]⟩) w := by kernel_rfl
theorem conv_d5 (w : World) : (convert 21 9 (.int .i32 53)).run Tryz.prog w = .ok (.string ⟨#[53]⟩) w := by kernel_rfl
theorem conv_d6 (w : World) : (convert 21 9 (.int .i32 54)).run Tryz.prog w = .ok (.string ⟨#[54]⟩) w := by kernel_rfl
theorem conv_d7 (w : World) : (convert 21 9 (.int .i32 55)).run Tryz.prog w = .ok (.string ⟨#[55]⟩) w := by kernel_rfl
theorem conv_d8 (w : World) : (convert 21 9 (.int .i32 56)).run Tryz.prog w = .ok (.string ⟨#[56]⟩) w := by kernel_rfl
theorem conv_d9 (w : World) : (convert 21 9 (.int .i32 57)).run Tryz.prog w = .ok (.string ⟨#[57]⟩) w := by kernel_rfl

theorem conv_digit (d : Nat) (h : d < 10) (w : World) : (convert 21 9 (.int .i32 (((48 + d : Nat)) : Int))).run Tryz.prog w = .ok (.string ⟨[UInt8.ofNat (48 + d)].toArray⟩) w := by
  obtain rfl | rfl | rfl | rfl | rfl | rfl | rfl | rfl | rfl | rfl : d = 0 ∨ d = 1 ∨ d = 2 ∨ d = 3 ∨ d = 4 ∨ d = 5 ∨ d = 6 ∨ d = 7 ∨ d = 8 ∨ d = 9 := by omega
  · exact conv_d0 w
  · exact conv_d1 w
  · exact conv_d2 w
  · exact conv_d3 w
  · exact conv_d4 w
  · exact conv_d5 w
  · exact conv_d6 w
  · exact conv_d7 w
  · exact conv_d8 w
  · exact conv_d9 w

theorem r1_FromInt_neg (w : World) (n : Int) (h : n < 0) : Calls Tryz.prog 58 #[.int .i64 n] w fun e w' => e = .returned (.tuple #[.string ⟨#[]⟩, .int .i64 2]) ∧ w = w' := by
  have q0 : decide (n < 0) = true := by simpa using h
  go_enter Tryz.func58, Tryz.ntmps58
  go_wp2_with fail
  go_ret2
  exact ⟨rfl, rfl⟩

set_option maxHeartbeats 1000000 in
theorem r1_FromInt (w : World) (n : Nat) (h : n ≤ 9223372036854775807) : Calls Tryz.prog 58 #[.int .i64 n] w fun e w' => e = .returned (.tuple #[numV n, .int .i64 0]) ∧ w = w' := by
  have hd20 := hid (show nDigits n ≤ 19 from nDigits_le (by omega) (by omega))
  go_enter Tryz.func58, Tryz.ntmps58
  go_wp2_with fail
  go_loop [0, 4] (fun nn ss => ∃ (m : Nat) (l : List UInt8), nn = .int .i64 m ∧ m ≤ 9223372036854775807 ∧ ss = .string ⟨l.toArray⟩ ∧ l.length ≤ 19 ∧ Hid (decDigits n = decDigits m ++ l)) (fun nn _ => (intOf nn).toNat)
  case atStart => exact ⟨n, [], rfl, h, rfl, by simp, by simp [Hid]⟩
  case round =>
    obtain ⟨m, l, rfl, hm, rfl, hl, hd⟩ := hrel
    have hc := conv_digit (m % 10) (by omega)
    have hz : (((48 + m % 10 : Nat)) : Int) = 48 + (m : Int) % 10 := by omega
    rw [hz] at hc
    by_cases h9 : 9 < m
    · have q1 : decide ((9 : Int) < (m : Int)) = true := by simp; omega
      have hdm := hid (decDigits_big (u := m) (by omega))
      have hl19 : l.length + 1 ≤ 19 := by
        have h1 := congrArg List.length hd.out
        rw [List.length_append, Go.Lib.decDigits_length] at h1
        have h2 := hd20.out
        have h3 := dec_length_pos m
        omega
      clear hz
      go_wp2_with fail
      go_round
      case rel => exact ⟨m / 10, UInt8.ofNat (48 + m % 10) :: l, by go_num, by omega, by simp [Go.ByteArray.mk_append_mk], by simpa using hl19, by rw [Hid, hd.out, hdm.out]; simp⟩
      case measure => simp [intOf] <;> omega
    · have q1 : decide ((9 : Int) < (m : Int)) = false := by simp; omega
      have hm9 : m < 10 := by omega
      have hdm := hid (decDigits_small hm9)
      have hmm : m % 10 = m := Nat.mod_eq_of_lt hm9
      rw [hmm] at hc
      have hmI : (48 + (m : Int) % 10) = 48 + (m : Int) := by omega
      rw [hmI] at hc
      clear hz hmm hmI h9
      go_wp2_with fail
      go_ret2
      refine ⟨ret_pair ?_ rfl, rfl⟩
      rw [numV, hd.out, hdm.out]
      simp [Go.ByteArray.mk_append_mk]
end Go.Proofs.YtjgcjjbnnlnilaaGreatDoor

/- Walks: the reference's Plus. -/
namespace Go.Proofs.YtjgcjjbnnlnilaaGreatDoor
open Go.RowKit
set_option linter.unusedVariables false

set_option maxHeartbeats 4000000 in
theorem r1_Plus (w : World) (v u : Value) (a b : Nat) (ha : IsN .i64 w v a) (hb : IsN .i64 w u b) (hla : (limbs a).length ≤ 1000000) (hlb : (limbs b).length ≤ 1000000) :
    Calls Tryz.prog 59 #[v, u] w fun e w' => RetN .i64 (a + b) e w' ∧ Below w.heap.size w w' := by
  obtain ⟨i0, hi, hz0, hz1, hz2⟩ := info_parts info_int
  obtain ⟨a1, c1, rfl, h1, h2, h3⟩ := ha.openI
  obtain ⟨a2, c2, rfl, k1, k2, k3⟩ := hb.openI
  have H3 := hid h3; have K3 := hid k3; clear h3 k3 ha hb
  obtain ⟨n, ea⟩ : ∃ n, (limbs a).length = n := ⟨_, rfl⟩
  obtain ⟨m, eb⟩ : ∃ m, (limbs b).length = m := ⟨_, rfl⟩
  rw [ea] at h1 hla ⊢
  rw [eb] at k1 hlb ⊢
  have HA := hid ea; have HB := hid eb
  clear ea eb
  go_enter Tryz.func59, Tryz.ntmps59
  go_wp2_with fail
  go_loopw [5, 6, 7] (fun o cc i wr => ∃ (s : List Nat) (c : Nat) (C : Int), i = .int .i64 s.length ∧ cc = .int .i64 C ∧ C = (c : Int) ∧ c ≤ 1 ∧ s.length ≤ 1000001 ∧ (s.length ≤ n ∨ s.length ≤ m ∨ c = 0) ∧ Hid (PlusI a b s c) ∧ Hid (wr.ownsRow w.heap.size 3 1 o s.length (ints .i64 s)) ∧ Hid (Below w.heap.size w wr))
    (fun _ _ i _ => 1000002 - (intOf i).toNat)
  case atStart => exact ⟨[], 0, 0, rfl, rfl, rfl, by omega, by simp, .inl (by simp), PlusI.start a b, World.ownsRow_nil _ _ _ _, Below.refl _ _⟩
  case round =>
    obtain ⟨s, c, C, rfl, rfl, hC, hc1, hs1, hs2, hP, hO, hB⟩ := hrel
    obtain ⟨ao, co, rfl⟩ := owns_ex hO.out
    by_cases hA : s.length < n
    · obtain ⟨x, hx⟩ : ∃ x, (limbs a)[s.length]? = some x := ⟨_, List.getElem?_eq_getElem (by rw [HA.out]; exact hA)⟩
      obtain ⟨g, og, rfl, hg, hc⟩ := H3.out _ x hx
      have hc' := (hB.out.cell (p := ⟨g, og + s.length, none⟩) hg).trans hc
      have hxl := (sm_limbs a).get hx
      have HX := hid hx; clear hx hc
      by_cases hB' : s.length < m
      · obtain ⟨y, hy⟩ : ∃ y, (limbs b)[s.length]? = some y := ⟨_, List.getElem?_eq_getElem (by rw [HB.out]; exact hB')⟩
        obtain ⟨g', og', rfl, hg', hd⟩ := K3.out _ y hy
        have hd' := (hB.out.cell (p := ⟨g', og' + s.length, none⟩) hg').trans hd
        have hyl := (sm_limbs b).get hy
        have HY := hid hy; clear hy hd
        rcases (show c = 0 ∨ c = 1 by omega) with rfl | rfl
        · obtain rfl : C = 0 := by omega
          clear hC
          have HN := hid (hP.out.next (by rw [HA.out]; exact .inl hA))
          rw [getD_of HX.out, getD_of HY.out] at HN
          go_wp2_with (at_builtin; refine wpList_append_own _ rfl _ _ 77 rfl w.heap.size 3 i0 (.int .i64 0) 1 8 Tryz.underlying77 hi hz0 hz1 hz2 rfl (by decide) _ s.length _ rfl (hO.out.alloc _) ⟨wr.heap.size, 0, none⟩ 1 1 [.int .i64 ((↑x + ↑y : Int) % 1000000000)] rfl rfl (cell_one_new wr (.int .i64 ((↑x + ↑y : Int) % 1000000000)) 3) (by simp [Value.oneCell']) (by unfold maxLen; omega) (by omega) (by have := hB.out.size; simp; omega) ?_; intro v' w3 hown3 hgrow3 _; have HO3 := hid hown3; have HG3 := hid hgrow3; clear hown3 hgrow3)
          have hz : ((↑x + ↑y : Int) % 1000000000) = (((x + 0 + y) % 1000000000 : Nat) : Int) := by omega
          rw [hz] at HO3
          obtain ⟨n1, n2⟩ := own_next hO.out hB.out HO3.out HG3.out
          have N1 := hid n1; have N2 := hid n2; clear n1 n2 hz HO3 HG3
          obtain ⟨a3, k3, rfl⟩ := owns_ex N1.out
          go_wp2_with fail
          go_roundw
          case rel => exact ⟨s ++ [(x + 0 + y) % 1000000000], (x + 0 + y) / 1000000000, _, by simp, rfl, by omega, HN.out.c1, by simp <;> omega, by simp <;> omega, HN, N1, N2⟩
          case measure => simp [intOf] <;> omega
        · obtain rfl : C = 1 := by omega
          clear hC
          have HN := hid (hP.out.next (by rw [HA.out]; exact .inl hA))
          rw [getD_of HX.out, getD_of HY.out] at HN
          go_wp2_with (at_builtin; refine wpList_append_own _ rfl _ _ 77 rfl w.heap.size 3 i0 (.int .i64 0) 1 8 Tryz.underlying77 hi hz0 hz1 hz2 rfl (by decide) _ s.length _ rfl (hO.out.alloc _) ⟨wr.heap.size, 0, none⟩ 1 1 [.int .i64 ((1 + ↑x + ↑y : Int) % 1000000000)] rfl rfl (cell_one_new wr (.int .i64 ((1 + ↑x + ↑y : Int) % 1000000000)) 3) (by simp [Value.oneCell']) (by unfold maxLen; omega) (by omega) (by have := hB.out.size; simp; omega) ?_; intro v' w3 hown3 hgrow3 _; have HO3 := hid hown3; have HG3 := hid hgrow3; clear hown3 hgrow3)
          have hz : ((1 + ↑x + ↑y : Int) % 1000000000) = (((x + 1 + y) % 1000000000 : Nat) : Int) := by omega
          rw [hz] at HO3
          obtain ⟨n1, n2⟩ := own_next hO.out hB.out HO3.out HG3.out
          have N1 := hid n1; have N2 := hid n2; clear n1 n2 hz HO3 HG3
          obtain ⟨a3, k3, rfl⟩ := owns_ex N1.out
          go_wp2_with fail
          go_roundw
          case rel => exact ⟨s ++ [(x + 1 + y) % 1000000000], (x + 1 + y) / 1000000000, _, by simp, rfl, by omega, HN.out.c1, by simp <;> omega, by simp <;> omega, HN, N1, N2⟩
          case measure => simp [intOf] <;> omega
      · skip
        rcases (show c = 0 ∨ c = 1 by omega) with rfl | rfl
        · obtain rfl : C = 0 := by omega
          clear hC
          have HN := hid (hP.out.next (by rw [HA.out]; exact .inl hA))
          rw [getD_of HX.out, getD_none (by rw [HB.out]; omega)] at HN
          go_wp2_with (at_builtin; refine wpList_append_own _ rfl _ _ 77 rfl w.heap.size 3 i0 (.int .i64 0) 1 8 Tryz.underlying77 hi hz0 hz1 hz2 rfl (by decide) _ s.length _ rfl (hO.out.alloc _) ⟨wr.heap.size, 0, none⟩ 1 1 [.int .i64 ((↑x : Int) % 1000000000)] rfl rfl (cell_one_new wr (.int .i64 ((↑x : Int) % 1000000000)) 3) (by simp [Value.oneCell']) (by unfold maxLen; omega) (by omega) (by have := hB.out.size; simp; omega) ?_; intro v' w3 hown3 hgrow3 _; have HO3 := hid hown3; have HG3 := hid hgrow3; clear hown3 hgrow3)
          have hz : ((↑x : Int) % 1000000000) = (((x + 0 + 0) % 1000000000 : Nat) : Int) := by omega
          rw [hz] at HO3
          obtain ⟨n1, n2⟩ := own_next hO.out hB.out HO3.out HG3.out
          have N1 := hid n1; have N2 := hid n2; clear n1 n2 hz HO3 HG3
          obtain ⟨a3, k3, rfl⟩ := owns_ex N1.out
          go_wp2_with fail
          go_roundw
          case rel => exact ⟨s ++ [(x + 0 + 0) % 1000000000], (x + 0 + 0) / 1000000000, _, by simp, rfl, by omega, HN.out.c1, by simp <;> omega, by simp <;> omega, HN, N1, N2⟩
          case measure => simp [intOf] <;> omega
        · obtain rfl : C = 1 := by omega
          clear hC
          have HN := hid (hP.out.next (by rw [HA.out]; exact .inl hA))
          rw [getD_of HX.out, getD_none (by rw [HB.out]; omega)] at HN
          go_wp2_with (at_builtin; refine wpList_append_own _ rfl _ _ 77 rfl w.heap.size 3 i0 (.int .i64 0) 1 8 Tryz.underlying77 hi hz0 hz1 hz2 rfl (by decide) _ s.length _ rfl (hO.out.alloc _) ⟨wr.heap.size, 0, none⟩ 1 1 [.int .i64 ((1 + ↑x : Int) % 1000000000)] rfl rfl (cell_one_new wr (.int .i64 ((1 + ↑x : Int) % 1000000000)) 3) (by simp [Value.oneCell']) (by unfold maxLen; omega) (by omega) (by have := hB.out.size; simp; omega) ?_; intro v' w3 hown3 hgrow3 _; have HO3 := hid hown3; have HG3 := hid hgrow3; clear hown3 hgrow3)
          have hz : ((1 + ↑x : Int) % 1000000000) = (((x + 1 + 0) % 1000000000 : Nat) : Int) := by omega
          rw [hz] at HO3
          obtain ⟨n1, n2⟩ := own_next hO.out hB.out HO3.out HG3.out
          have N1 := hid n1; have N2 := hid n2; clear n1 n2 hz HO3 HG3
          obtain ⟨a3, k3, rfl⟩ := owns_ex N1.out
          go_wp2_with fail
          go_roundw
          case rel => exact ⟨s ++ [(x + 1 + 0) % 1000000000], (x + 1 + 0) / 1000000000, _, by simp, rfl, by omega, HN.out.c1, by simp <;> omega, by simp <;> omega, HN, N1, N2⟩
          case measure => simp [intOf] <;> omega
    · skip
      by_cases hB' : s.length < m
      · obtain ⟨y, hy⟩ : ∃ y, (limbs b)[s.length]? = some y := ⟨_, List.getElem?_eq_getElem (by rw [HB.out]; exact hB')⟩
        obtain ⟨g', og', rfl, hg', hd⟩ := K3.out _ y hy
        have hd' := (hB.out.cell (p := ⟨g', og' + s.length, none⟩) hg').trans hd
        have hyl := (sm_limbs b).get hy
        have HY := hid hy; clear hy hd
        rcases (show c = 0 ∨ c = 1 by omega) with rfl | rfl
        · obtain rfl : C = 0 := by omega
          clear hC
          have HN := hid (hP.out.next (by rw [HB.out]; exact .inr (.inl hB')))
          rw [getD_none (by rw [HA.out]; omega), getD_of HY.out] at HN
          go_wp2_with (at_builtin; refine wpList_append_own _ rfl _ _ 77 rfl w.heap.size 3 i0 (.int .i64 0) 1 8 Tryz.underlying77 hi hz0 hz1 hz2 rfl (by decide) _ s.length _ rfl (hO.out.alloc _) ⟨wr.heap.size, 0, none⟩ 1 1 [.int .i64 ((↑y : Int) % 1000000000)] rfl rfl (cell_one_new wr (.int .i64 ((↑y : Int) % 1000000000)) 3) (by simp [Value.oneCell']) (by unfold maxLen; omega) (by omega) (by have := hB.out.size; simp; omega) ?_; intro v' w3 hown3 hgrow3 _; have HO3 := hid hown3; have HG3 := hid hgrow3; clear hown3 hgrow3)
          have hz : ((↑y : Int) % 1000000000) = (((0 + 0 + y) % 1000000000 : Nat) : Int) := by omega
          rw [hz] at HO3
          obtain ⟨n1, n2⟩ := own_next hO.out hB.out HO3.out HG3.out
          have N1 := hid n1; have N2 := hid n2; clear n1 n2 hz HO3 HG3
          obtain ⟨a3, k3, rfl⟩ := owns_ex N1.out
          go_wp2_with fail
          go_roundw
          case rel => exact ⟨s ++ [(0 + 0 + y) % 1000000000], (0 + 0 + y) / 1000000000, _, by simp, rfl, by omega, HN.out.c1, by simp <;> omega, by simp <;> omega, HN, N1, N2⟩
          case measure => simp [intOf] <;> omega
        · obtain rfl : C = 1 := by omega
          clear hC
          have HN := hid (hP.out.next (by rw [HB.out]; exact .inr (.inl hB')))
          rw [getD_none (by rw [HA.out]; omega), getD_of HY.out] at HN
          go_wp2_with (at_builtin; refine wpList_append_own _ rfl _ _ 77 rfl w.heap.size 3 i0 (.int .i64 0) 1 8 Tryz.underlying77 hi hz0 hz1 hz2 rfl (by decide) _ s.length _ rfl (hO.out.alloc _) ⟨wr.heap.size, 0, none⟩ 1 1 [.int .i64 ((1 + ↑y : Int) % 1000000000)] rfl rfl (cell_one_new wr (.int .i64 ((1 + ↑y : Int) % 1000000000)) 3) (by simp [Value.oneCell']) (by unfold maxLen; omega) (by omega) (by have := hB.out.size; simp; omega) ?_; intro v' w3 hown3 hgrow3 _; have HO3 := hid hown3; have HG3 := hid hgrow3; clear hown3 hgrow3)
          have hz : ((1 + ↑y : Int) % 1000000000) = (((0 + 1 + y) % 1000000000 : Nat) : Int) := by omega
          rw [hz] at HO3
          obtain ⟨n1, n2⟩ := own_next hO.out hB.out HO3.out HG3.out
          have N1 := hid n1; have N2 := hid n2; clear n1 n2 hz HO3 HG3
          obtain ⟨a3, k3, rfl⟩ := owns_ex N1.out
          go_wp2_with fail
          go_roundw
          case rel => exact ⟨s ++ [(0 + 1 + y) % 1000000000], (0 + 1 + y) / 1000000000, _, by simp, rfl, by omega, HN.out.c1, by simp <;> omega, by simp <;> omega, HN, N1, N2⟩
          case measure => simp [intOf] <;> omega
      · skip
        rcases (show c = 0 ∨ c = 1 by omega) with rfl | rfl
        · obtain rfl : C = 0 := by omega
          clear hC
          have hs := hid (hP.out.done (by rw [HA.out]; exact hA) (by rw [HB.out]; exact hB') rfl)
          go_wp2_with fail
          go_ret
          exact ⟨⟨_, rfl, owns_isN hO.out hs.out⟩, hB.out⟩
        · obtain rfl : C = 1 := by omega
          clear hC
          have HN := hid (hP.out.next (by exact .inr (.inr (by omega))))
          rw [getD_none (by rw [HA.out]; omega), getD_none (by rw [HB.out]; omega)] at HN
          go_wp2_with (at_builtin; refine wpList_append_own _ rfl _ _ 77 rfl w.heap.size 3 i0 (.int .i64 0) 1 8 Tryz.underlying77 hi hz0 hz1 hz2 rfl (by decide) _ s.length _ rfl (hO.out.alloc _) ⟨wr.heap.size, 0, none⟩ 1 1 [.int .i64 (1)] rfl rfl (cell_one_new wr (.int .i64 (1)) 3) (by simp [Value.oneCell']) (by unfold maxLen; omega) (by omega) (by have := hB.out.size; simp; omega) ?_; intro v' w3 hown3 hgrow3 _; have HO3 := hid hown3; have HG3 := hid hgrow3; clear hown3 hgrow3)
          have hz : (1) = (((0 + 1 + 0) % 1000000000 : Nat) : Int) := by omega
          rw [hz] at HO3
          obtain ⟨n1, n2⟩ := own_next hO.out hB.out HO3.out HG3.out
          have N1 := hid n1; have N2 := hid n2; clear n1 n2 hz HO3 HG3
          obtain ⟨a3, k3, rfl⟩ := owns_ex N1.out
          go_wp2_with fail
          go_roundw
          case rel => exact ⟨s ++ [(0 + 1 + 0) % 1000000000], (0 + 1 + 0) / 1000000000, _, by simp, rfl, by omega, HN.out.c1, by simp <;> omega, by simp <;> omega, HN, N1, N2⟩
          case measure => simp [intOf] <;> omega
end Go.Proofs.YtjgcjjbnnlnilaaGreatDoor

/- Walks: the program's limbs: Form. -/
namespace Go.Proofs.YtjgcjjbnnlnilaaGreatDoor
open Go.RowKit Go.Shelf Go.Lib
set_option linter.unusedVariables false

def digs : List UInt8 := [48, 49, 50, 51, 52, 53, 54, 55, 56, 57]

theorem mem_digs (b : UInt8) : digs.contains b = isDig b := by
  rw [Bool.eq_iff_iff, List.contains_iff_mem, isDig_iff]
  simp only [digs, List.mem_cons, ← UInt8.toNat_inj, List.not_mem_nil, or_false]
  simp
  omega

theorem trim_nil {l cs : List UInt8} : trimS l cs = [] ↔ ∀ b ∈ l, cs.contains b = true := by
  have key : ∀ m : List UInt8, m.dropWhile (cs.contains ·) = [] ↔ ∀ b ∈ m, cs.contains b = true := by
    intro m
    induction m with
    | nil => simp
    | cons x r ih =>
      by_cases hx : cs.contains x = true
      · rw [List.dropWhile_cons_of_pos hx, ih]
        simp at hx
        simp [hx]
      · rw [List.dropWhile_cons_of_neg hx]
        simp at hx
        simp [hx]
  unfold trimS trimLeftS trimRightS
  rw [key]
  constructor
  · intro h
    have h2 : l.reverse.dropWhile (cs.contains ·) = [] := by
      cases hm : l.reverse.dropWhile (cs.contains ·) with
      | nil => rfl
      | cons x r =>
        exfalso
        have hx : cs.contains x = true := h x (by rw [hm]; simp)
        have := List.head?_dropWhile_not (cs.contains ·) l.reverse
        rw [hm] at this
        simp only [List.head?_cons] at this
        rw [hx] at this
        cases this
    rw [key] at h2
    exact fun b hb => h2 b (List.mem_reverse.2 hb)
  · intro h b hb
    have : b ∈ l.reverse := by
      have hs := List.dropWhile_sublist (l := l.reverse) (cs.contains ·)
      exact hs.subset (List.mem_reverse.1 hb)
    exact h b (List.mem_reverse.1 this)

theorem form_trim {b : UInt8} {r : List UInt8} (h : ¬ (b = 48 ∧ r ≠ [])) : formB (b :: r) = (trimS (b :: r) digs).isEmpty := by
  have e : (trimS (b :: r) digs).isEmpty = (b :: r).all isDig := by
    rw [Bool.eq_iff_iff, List.isEmpty_iff, trim_nil, List.all_eq_true]
    exact ⟨fun h x hx => (mem_digs x) ▸ h x hx, fun h x hx => (mem_digs x).symm ▸ h x hx⟩
  rw [e, formB]
  have : ((b :: r) == [48] || (b :: r).head? != some 48) = true := by
    by_cases hb : b = 48
    · have hr : r = [] := Decidable.byContradiction fun hr => h ⟨hb, hr⟩
      subst hb; subst hr; rfl
    · simp [hb]
  rw [this]
  simp

theorem form_zero {c : UInt8} {r : List UInt8} : formB (48 :: c :: r) = false := by simp [formB]

theorem digs_ascii : ∀ (j : Nat) b, (⟨#[48, 49, 50, 51, 52, 53, 54, 55, 56, 57]⟩ : ByteArray).data.toList[j]? = some b → b.toNat < 128 := ascii_of_all (by decide)

set_option maxRecDepth 100000 in
set_option maxHeartbeats 4000000 in
theorem l_Form (w : World) (s : ByteArray) (hs : s.size ≤ 100000000) :
    Calls Tryz.prog 128 #[.string s] w fun e w' => e = .returned (.bool (formB s.data.toList)) ∧ Below w.heap.size w w' := by
  obtain ⟨⟨l⟩⟩ := s
  simp only [ByteArray.size, List.size_toArray] at hs
  cases l with
  | nil =>
    go_enter Tryz.func128, Tryz.ntmps128
    go_wp2_with fail
    go_ret
    exact ⟨rfl, Below.refl _ _⟩
  | cons b r =>
    have hix : (ByteArray.mk ⟨b :: r⟩)[0]'(by simp [ByteArray.size]) = b := rfl
    have htr := fun w => Tryz.strings_Trim ⟨⟨b :: r⟩⟩ ⟨#[48, 49, 50, 51, 52, 53, 54, 55, 56, 57]⟩ w (by simp only [ByteArray.size, List.size_toArray]; omega) (by decide) digs_ascii
    have HTR := hid htr
    clear htr
    by_cases hb : b = 48
    · cases r with
      | nil =>
        subst hb
        go_enter Tryz.func128, Tryz.ntmps128
        go_wp2_with (first
          | (go_at_call 130; refine (HTR.out _).mono ?_; rintro e w' ⟨rfl, hbw⟩)
          | fail)
        go_ret
        refine ⟨?_, hbw⟩
        rw [form_trim (by simp)]
        rfl
      | cons c r =>
        subst hb
        go_enter Tryz.func128, Tryz.ntmps128
        go_wp2_with fail
        go_ret
        refine ⟨?_, Below.refl _ _⟩
        rw [form_zero]
        rfl
    · have hb1 : (b == 48) = false := by simpa using hb
      have hb2 : ¬ ((b.toNat : Int) = 48) := fun e => hb (by apply UInt8.toNat_inj.1; simp; omega)
      have hb3 : ((b.toNat : Int) != 48) = true := by simpa using hb2
      go_enter Tryz.func128, Tryz.ntmps128
      go_wp2_with (first
        | (go_at_call 130; refine (HTR.out _).mono ?_; rintro e w' ⟨rfl, hbw⟩)
        | fail)
      go_ret
      refine ⟨?_, hbw⟩
      rw [form_trim (by simp [hb])]
      rfl
end Go.Proofs.YtjgcjjbnnlnilaaGreatDoor

/- Walks: bits.Check. -/
namespace Go.Proofs.YtjgcjjbnnlnilaaGreatDoor
open Go.RowKit Go.Shelf
open Go.Lib (decDigits nDigits)
set_option linter.unusedVariables false

/-- A string of bits. -/
def bitB (s : ByteArray) : Bool := s.data.toList.all fun b => b == 48 || b == 49
def bitE (s : ByteArray) : Int := if bitB s = true then 0 else 3

theorem bits_ascii : ∀ (j : Nat) b, (⟨#[48, 49]⟩ : ByteArray).data.toList[j]? = some b → b.toNat < 128 := ascii_of_all (by decide)

theorem bitB_trim (s : ByteArray) : (Lib.trimS s.data.toList [48, 49]).isEmpty = bitB s := by
  rw [Bool.eq_iff_iff, List.isEmpty_iff, trim_nil, bitB, List.all_eq_true]
  refine forall_congr' fun b => forall_congr' fun _ => ?_
  rw [List.contains_iff_mem]
  simp

set_option maxRecDepth 100000 in
set_option maxHeartbeats 1000000 in
theorem b_Check (w : World) (s : ByteArray) (hs : s.size ≤ 100000000) :
    Calls Tryz.prog 92 #[.string s] w fun e w' => e = .returned (.int .i64 (bitE s)) ∧ Below w.heap.size w w' := by
  have htr := hid (Tryz.strings_Trim s ⟨#[48, 49]⟩ w (by omega) (by decide) bits_ascii)
  have hb := bitB_trim s
  obtain ⟨r, hr⟩ : ∃ r, Lib.trimS s.data.toList [48, 49] = r := ⟨_, rfl⟩
  have e0 : (⟨#[48, 49]⟩ : ByteArray).data.toList = [48, 49] := rfl
  rw [e0, hr] at htr
  rw [hr] at hb
  cases r with
  | nil =>
    have e1 : bitE s = 0 := if_pos hb.symm
    rw [e1]
    clear hb hr e1
    go_enter Tryz.func92, Tryz.ntmps92
    go_wp2_with fail
    refine htr.out.mono ?_; rintro e w1 ⟨rfl, hb1⟩
    go_wp2_with fail
    go_ret
    exact ⟨rfl, hb1⟩
  | cons b r =>
    have e1 : bitE s = 3 := if_neg (by rw [← hb]; simp)
    rw [e1]
    clear hb hr e1
    go_enter Tryz.func92, Tryz.ntmps92
    go_wp2_with fail
    refine htr.out.mono ?_; rintro e w1 ⟨rfl, hb1⟩
    go_wp2_with fail
    go_ret
    exact ⟨rfl, hb1⟩

/-- The error of a string of bits of bounded length. -/
def chkE (s : ByteArray) : Int := if bitB s = true then (if 256 < s.size then 4 else 0) else 3
end Go.Proofs.YtjgcjjbnnlnilaaGreatDoor

/- Walks: the reference's Int (small), small, Value, Two; the check of bits. -/
namespace Go.Proofs.YtjgcjjbnnlnilaaGreatDoor
open Go.RowKit
open Go.Lib (decDigits nDigits)
set_option linter.unusedVariables false
set_option linter.unusedSimpArgs false

theorem r2_Int (w : World) (n : Nat) (h : n ≤ 9223372036854775807) : Calls Tryz.prog 20 #[.int .i64 n] w fun e w' => e = .returned (.string (numB n)) ∧ w = w' := by
  have q0 : decide ((0 : Int) ≤ (n : Int)) = true := by simp
  go_enter Tryz.func20, Tryz.ntmps20
  go_wp2_with fail
  refine (r1_FromInt _ n h).mono ?_; rintro e w1 ⟨rfl, rfl⟩
  rw [numV_eq]
  go_wp2_with fail
  go_ret
  exact ⟨rfl, rfl⟩

theorem r3_small (w : World) (n : Nat) (h : n ≤ 9223372036854775807) : Calls Tryz.prog 123 #[.int .i64 n] w fun e w' => RetN .i64 n e w' ∧ Below w.heap.size w w' := by
  have hd := hid (show nDigits n ≤ 9000 from Nat.le_trans (nDigits_le (k := 19) (by omega) (by omega)) (by omega))
  go_enter Tryz.func123, Tryz.ntmps123
  go_wp2_with fail
  refine (r2_Int _ n h).mono ?_; rintro e w1 ⟨rfl, rfl⟩
  go_wp2_with fail
  refine (r1_Read_num _ n hd.out).mono ?_; rintro e w1 ⟨⟨v, rfl, hv⟩, hb⟩
  go_wp2_with fail
  go_ret
  exact ⟨⟨_, rfl, hv⟩, hb⟩

theorem limbs_two {n k : Nat} (h : n < 2 ^ k) : (limbs n).length ≤ k :=
  limbs_length_le.2 (Nat.lt_of_lt_of_le h (Nat.pow_le_pow_left (by omega) k))

/-- The number of a bit string. -/
def bv (l : List UInt8) : Nat := l.foldl (fun a b => a + a + (if b = 49 then 1 else 0)) 0
theorem bv_snoc (l : List UInt8) (b : UInt8) : bv (l ++ [b]) = bv l + bv l + (if b = 49 then 1 else 0) := by simp [bv]
theorem bv_take {l : List UInt8} {i : Nat} {b : UInt8} (h : l[i]? = some b) : bv (l.take (i + 1)) = bv (l.take i) + bv (l.take i) + (if b = 49 then 1 else 0) := by
  rw [List.take_add_one, h]
  exact bv_snoc _ _
theorem bv_lt {l : List UInt8} : ∀ (i : Nat), i ≤ l.length → bv (l.take i) < 2 ^ i
  | 0, _ => by simp [bv]
  | i + 1, h => by
    have ih := bv_lt (l := l) i (by omega)
    rw [bv_take (l := l) (i := i) (b := l[i]) (List.getElem?_eq_getElem (by omega)), Nat.pow_succ]
    split <;> omega

set_option maxRecDepth 100000 in
set_option maxHeartbeats 1000000 in
theorem r3_Value (w : World) (s : ByteArray) (hs : s.size ≤ 100000) : Calls Tryz.prog 80 #[.string s] w fun e w' => RetN .i64 (bv s.data.toList) e w' ∧ Below w.heap.size w w' := by
  have hsl := hid (show s.data.toList.length = s.size from by simp)
  go_enter Tryz.func80, Tryz.ntmps80
  go_wp2_with fail
  refine (r3_small _ 0 (by omega)).mono ?_; rintro e w1 ⟨⟨v, rfl, hv⟩, hb⟩
  have V := hid hv; have B := hid hb
  clear hv hb
  go_wp2_with fail
  go_loopw [3, 4] (fun o ii wr => ∃ i : Nat, ii = .int .i64 i ∧ i ≤ s.size ∧ Hid (IsN .i64 wr o (bv (s.data.toList.take i))) ∧ Hid (Below w.heap.size w wr)) (fun o ii wr => s.size - (intOf ii).toNat)
  case atStart => exact ⟨0, rfl, Nat.zero_le _, V, B⟩
  case round =>
    obtain ⟨i, rfl, hi, hO, hB⟩ := hrel
    by_cases hlt : i < s.size
    · have hget := byte_get hlt
      have hl := bv_lt (l := s.data.toList) i (by rw [hsl.out]; exact hi)
      have hl2 := bv_lt (l := s.data.toList) (i + 1) (by rw [hsl.out]; exact hlt)
      have hbt := hid (bv_take hget)
      have ll : Hid ((limbs (bv (s.data.toList.take i))).length ≤ 1000000) := Nat.le_trans (limbs_two hl) (by omega)
      have ll2 : Hid ((limbs (bv (s.data.toList.take i) + bv (s.data.toList.take i))).length ≤ 1000000) := by
        refine Nat.le_trans (limbs_two (k := i + 1) ?_) (by omega)
        rw [Nat.pow_succ]; omega
      have l1 : Hid ((limbs 1).length ≤ 1000000) := by show _ ≤ _; rw [limbs_one]; decide
      by_cases hb : s[i] = 49
      · have q1 : ((s[i].toNat : Int) == 49) = true := by rw [hb]; rfl
        rw [if_pos hb] at hbt
        clear hget hl hl2 hb
        go_wp2_with fail
        refine (r1_Plus _ _ _ _ _ hO.out hO.out ll.out ll.out).mono ?_; rintro e w2 ⟨⟨v2, rfl, hv2⟩, hb2⟩
        have V2 := hid hv2; have B2 := hid (bnext hB.out hb2)
        clear hv2 hb2
        go_wp2_with fail
        refine (r3_small _ 1 (by omega)).mono ?_; rintro e w3 ⟨⟨v3, rfl, hv3⟩, hb3⟩
        have V3 := hid hv3; have B3 := hid (bnext B2.out hb3); have V2' := hid (V2.out.call hb3)
        clear hv3 hb3 V2
        go_wp2_with fail
        refine (r1_Plus _ _ _ _ _ V2'.out V3.out ll2.out l1.out).mono ?_; rintro e w4 ⟨⟨v4, rfl, hv4⟩, hb4⟩
        have V4 := hid hv4; have B4 := hid (bnext B3.out hb4)
        clear hv4 hb4
        go_wp2_with fail
        go_roundw
        case rel => exact ⟨i + 1, by go_num, by omega, V4.out.cast hbt.out.symm, B4⟩
        case measure => simp [intOf] <;> omega
      · have q1 : ((s[i].toNat : Int) == 49) = false := by
          rw [beq_eq_false_iff_ne]
          intro e
          refine hb ?_
          have : s[i].toNat = (49 : UInt8).toNat := by simp; omega
          exact UInt8.toNat_inj.1 this
        rw [if_neg hb] at hbt
        clear hget hl hl2 hb
        go_wp2_with fail
        refine (r1_Plus _ _ _ _ _ hO.out hO.out ll.out ll.out).mono ?_; rintro e w2 ⟨⟨v2, rfl, hv2⟩, hb2⟩
        have V2 := hid hv2; have B2 := hid (bnext hB.out hb2)
        clear hv2 hb2
        go_wp2_with fail
        go_roundw
        case rel => exact ⟨i + 1, by go_num, by omega, V2.out.cast hbt.out.symm, B2⟩
        case measure => simp [intOf] <;> omega
    · obtain rfl : i = s.size := by omega
      go_wp2_with fail
      go_ret
      refine ⟨⟨_, rfl, hO.out.cast ?_⟩, hB.out⟩
      rw [← hsl.out, List.take_length]

set_option maxRecDepth 100000 in
set_option maxHeartbeats 1000000 in
theorem r3_Two (w : World) (n : Nat) (hn : n ≤ 100000) : Calls Tryz.prog 79 #[.int .i64 n] w fun e w' => RetN .i64 (2 ^ n) e w' ∧ Below w.heap.size w w' := by
  go_enter Tryz.func79, Tryz.ntmps79
  go_wp2_with fail
  refine (r3_small _ 1 (by omega)).mono ?_; rintro e w1 ⟨⟨v, rfl, hv⟩, hb⟩
  have V := hid hv; have B := hid hb
  clear hv hb
  go_wp2_with fail
  go_loopw [0, 3] (fun nn o wr => ∃ j : Nat, nn = .int .i64 j ∧ j ≤ n ∧ Hid (IsN .i64 wr o (2 ^ (n - j))) ∧ Hid (Below w.heap.size w wr)) (fun nn o wr => (intOf nn).toNat)
  case atStart => exact ⟨n, rfl, Nat.le_refl _, by rw [Nat.sub_self, Nat.pow_zero]; exact V, B⟩
  case round =>
    obtain ⟨j, rfl, hj, hO, hB⟩ := hrel
    by_cases h0 : 0 < j
    · have q0 : decide ((0 : Int) < (j : Int)) = true := by simp; omega
      have ll : Hid ((limbs (2 ^ (n - j))).length ≤ 1000000) := Nat.le_trans (limbs_two (k := n - j + 1) (Nat.pow_lt_pow_right (by omega) (by omega))) (by omega)
      have hs : Hid (2 ^ (n - j) + 2 ^ (n - j) = 2 ^ (n - (j - 1))) := by
        show _ = _
        rw [show n - (j - 1) = n - j + 1 by omega, Nat.pow_succ]; omega
      go_wp2_with fail
      refine (r1_Plus _ _ _ _ _ hO.out hO.out ll.out ll.out).mono ?_; rintro e w2 ⟨⟨v2, rfl, hv2⟩, hb2⟩
      have V2 := hid hv2; have B2 := hid (bnext hB.out hb2)
      clear hv2 hb2
      go_wp2_with fail
      go_roundw
      case rel => exact ⟨j - 1, by go_num, by omega, V2.out.cast hs.out, B2⟩
      case measure => simp [intOf] <;> omega
    · obtain rfl : j = 0 := by omega
      go_wp2_with fail
      go_ret
      exact ⟨⟨_, rfl, hO.out⟩, hB.out⟩

set_option maxRecDepth 100000 in
set_option maxHeartbeats 1000000 in
theorem r3_Check (w : World) (s : ByteArray) (hs : s.size ≤ 9223372036854775807) : Calls Tryz.prog 121 #[.string s] w fun e w' => e = .returned (.int .i64 (bitE s)) ∧ w = w' := by
  have hsl := hid (show s.data.toList.length = s.size from by simp)
  go_enter Tryz.func121, Tryz.ntmps121
  go_wp2_with fail
  go_loop [3] (fun ii => ∃ i : Nat, ii = .int .i64 i ∧ i ≤ s.size ∧ Hid (∀ (j : Nat) (b : UInt8), j < i → s.data.toList[j]? = some b → b = 48 ∨ b = 49)) (fun ii => s.size - (intOf ii).toNat)
  case atStart => exact ⟨0, rfl, Nat.zero_le _, fun j b hj => absurd hj (by omega)⟩
  case round =>
    obtain ⟨i, rfl, hi, hI⟩ := hrel
    by_cases hlt : i < s.size
    · have hb := hid (byte_get hlt)
      have ne : ∀ k : UInt8, s[i] ≠ k → ((s[i].toNat : Int) != (k.toNat : Int)) = true := fun k h => by
        rw [bne_iff_ne]
        intro e
        exact h (UInt8.toNat_inj.1 (by omega))
      by_cases c1 : s[i] = 48
      · have q1 : ((s[i].toNat : Int) != 48) = false := by rw [c1]; rfl
        have hB := hid c1
        clear c1 ne
        go_wp2_with fail
        go_round
        case rel => exact ⟨i + 1, by go_num, by omega, fun j b hj hjb => by
          by_cases e : j = i
          · subst e; rw [hb.out] at hjb; cases hjb; exact .inl hB.out
          · exact hI.out j b (by omega) hjb⟩
        case measure => simp [intOf] <;> omega
      · have q1 : ((s[i].toNat : Int) != 48) = true := ne 48 c1
        by_cases c2 : s[i] = 49
        · have q2 : ((s[i].toNat : Int) != 49) = false := by rw [c2]; rfl
          have hB := hid c2
          clear c1 c2 ne
          go_wp2_with fail
          go_round
          case rel => exact ⟨i + 1, by go_num, by omega, fun j b hj hjb => by
            by_cases e : j = i
            · subst e; rw [hb.out] at hjb; cases hjb; exact .inr hB.out
            · exact hI.out j b (by omega) hjb⟩
          case measure => simp [intOf] <;> omega
        · have q2 : ((s[i].toNat : Int) != 49) = true := ne 49 c2
          have hB := hid (And.intro c1 c2)
          clear c1 c2 ne
          go_wp2_with fail
          go_ret
          refine ⟨ret_int ?_, rfl⟩
          have : bitB s = false := by
            unfold bitB
            rw [Bool.eq_false_iff]
            intro h
            rw [List.all_eq_true] at h
            have := h _ (List.mem_of_getElem? hb.out)
            simp [hB.out.1, hB.out.2] at this
          unfold bitE
          rw [this]
          rfl
    · have e1 : i = s.size := by omega
      subst e1
      go_wp2_with fail
      go_ret
      refine ⟨ret_int ?_, rfl⟩
      have : bitB s = true := by
        unfold bitB
        rw [List.all_eq_true]
        intro b hb
        obtain ⟨j, hj, rfl⟩ := List.getElem_of_mem hb
        have := hI.out j _ (by rw [← hsl.out]; exact hj) (List.getElem?_eq_getElem hj)
        simpa using this
      unfold bitE
      rw [this]
      rfl
end Go.Proofs.YtjgcjjbnnlnilaaGreatDoor

/- Plain words: the text of a rational number, taken apart as the program does. -/
namespace Go.Proofs.YtjgcjjbnnlnilaaGreatDoor
open Go.RowKit
open Go.Lib (decDigits nDigits)

/-- Before the slash, behind it, whether there is one. -/
def cW (s : ByteArray) : ByteArray := ⟨(Lib.cut s.data.toList [47]).1.toArray⟩
def cB (s : ByteArray) : ByteArray := ⟨(Lib.cut s.data.toList [47]).2.1.toArray⟩
def cS (s : ByteArray) : Bool := (Lib.cut s.data.toList [47]).2.2
/-- Whether there is a minus; what is behind it. -/
def iM (s : ByteArray) : Bool := Lib.hasPrefix s.data.toList [45]
def iD (s : ByteArray) : ByteArray := ⟨(Lib.trimPrefix s.data.toList [45]).toArray⟩
def fB (s : ByteArray) : Bool := formB s.data.toList
def bN (s : ByteArray) : Nat := dv s.data.toList
/-- The form of an integer. -/
def iB (s : ByteArray) : Bool := fB (iD s) && !(iM s && decide (iD s = ⟨#[48]⟩))
/-- The denominator's text. -/
def qD (s : ByteArray) : ByteArray := if cS s = true then cB s else ⟨#[49]⟩
/-- The form of a rational number, but that it may be reduced. -/
def qB (s : ByteArray) : Bool := iB (cW s) && (!cS s || (decide (iD (cW s) ≠ ⟨#[48]⟩) && fB (cB s) && decide (cB s ≠ ⟨#[48]⟩) && decide (cB s ≠ ⟨#[49]⟩)))
def qL (s : ByteArray) : Bool := decide (4000 < (iD (cW s)).size) || decide (4000 < (qD s).size)
def qG (s : ByteArray) : Bool := cS s && !decide (Nat.gcd (bN (iD (cW s))) (bN (qD s)) = 1)
/-- The error of a text. -/
def qE (s : ByteArray) : Int := if qB s = false then 3 else if qL s = true then 5 else if qG s = true then 3 else 0

theorem dv_limbs {l : List UInt8} (h : allDig l) {L : Nat} (hl : l.length ≤ 9 * L) : (limbs (dv l)).length ≤ L := by
  refine limbs_length_le.2 (Nat.lt_of_lt_of_le (dv_lt h) ?_)
  refine Nat.le_trans (Nat.pow_le_pow_right (by omega) hl) ?_
  rw [show (1000000000 : Nat) = 10 ^ 9 by rfl, ← Nat.pow_mul]
  exact Nat.le_refl _

theorem fB_dig {s : ByteArray} (h : fB s = true) : allDig s.data.toList := (formB_iff.1 h).2.2
theorem iB_form {s : ByteArray} (h : iB s = true) : fB (iD s) = true := by
  unfold iB at h
  simp only [Bool.and_eq_true] at h
  exact h.1
theorem qB_whole {s : ByteArray} (h : qB s = true) : iB (cW s) = true := by
  unfold qB at h
  simp only [Bool.and_eq_true] at h
  exact h.1
theorem qB_below {s : ByteArray} (h : qB s = true) : fB (qD s) = true := by
  unfold qB at h
  simp only [Bool.and_eq_true, Bool.or_eq_true, Bool.not_eq_true'] at h
  unfold qD
  rcases h.2 with h2 | h2
  · rw [h2]; rfl
  · split
    · exact h2.1.1.2
    · rfl
theorem qE_ok {s : ByteArray} (h1 : qB s = true) (h2 : qL s = false) (h3 : qG s = false) : qE s = 0 := by simp [qE, h1, h2, h3]
theorem qE_zero {s : ByteArray} (h : qE s = 0) : qB s = true ∧ qL s = false ∧ qG s = false := by
  unfold qE at h
  cases h1 : qB s <;> cases h2 : qL s <;> cases h3 : qG s <;> simp [h1, h2, h3] at h ⊢

theorem cW_size (s : ByteArray) : (cW s).size ≤ s.size := by
  have e : s.data.toList.length = s.size := Array.length_toList
  unfold cW Lib.cut
  split <;> simp only [ByteArray.size, List.size_toArray, List.length_take] <;> (simp only [ByteArray.size] at e; omega)
theorem cB_size (s : ByteArray) : (cB s).size ≤ s.size := by
  have e : s.data.toList.length = s.size := Array.length_toList
  unfold cB Lib.cut
  split
  · simp only [ByteArray.size, List.size_toArray, List.length_drop]; simp only [ByteArray.size] at e; omega
  · exact Nat.zero_le _
theorem iD_size (s : ByteArray) : (iD s).size ≤ s.size := by
  have e : s.data.toList.length = s.size := Array.length_toList
  unfold iD Lib.trimPrefix
  split <;> simp only [ByteArray.size, List.size_toArray, List.length_drop] <;> (simp only [ByteArray.size] at e; omega)
theorem qD_size (s : ByteArray) : (qD s).size ≤ s.size + 1 := by
  have := cB_size s
  unfold qD
  split
  · omega
  · exact Nat.succ_le_succ (Nat.zero_le _)
end Go.Proofs.YtjgcjjbnnlnilaaGreatDoor

/- Walks: the program's texts of numbers: frac.Integer, nat.Check. -/
namespace Go.Proofs.YtjgcjjbnnlnilaaGreatDoor
open Go.RowKit Go.Shelf
set_option linter.unusedVariables false

theorem ne_lit {d : ByteArray} {l : List UInt8} (h : ¬ d = ⟨l.toArray⟩) : (d.toList == l) = false := by
  rw [beq_eq_false_iff_ne]
  intro e
  apply h
  have e2 : d.data.toList = l := by rw [← e]; exact (Lib.toList_data d).symm
  apply ByteArray.ext
  rw [← e2]

theorem l_form (w : World) (s : ByteArray) (hs : s.size ≤ 100000000) :
    Calls Tryz.prog 128 #[.string s] w fun e w' => e = .returned (.bool (fB s)) ∧ Below w.heap.size w w' := l_Form w s hs

theorem l_cutp (w : World) (s : ByteArray) :
    Calls Tryz.prog 156 #[.string s, .string ⟨#[45]⟩] w fun e w' => e = .returned (.tuple #[.string (iD s), .bool (iM s)]) ∧ w' = w := Tryz.strings_CutPrefix s ⟨#[45]⟩ w

set_option maxRecDepth 100000 in
set_option maxHeartbeats 1000000 in
theorem f_Integer (w : World) (s : ByteArray) (hs : s.size ≤ 100000000) :
    Calls Tryz.prog 114 #[.string s] w fun e w' => e = .returned (.tuple #[.bool (iM s), .string (iD s), .bool (iB s)]) ∧ Below w.heap.size w w' := by
  have HI := hid (show iB s = (fB (iD s) && !(iM s && decide (iD s = ⟨#[48]⟩))) from rfl)
  have hsz := iD_size s
  obtain ⟨m, hm⟩ : ∃ m, iM s = m := ⟨_, rfl⟩
  obtain ⟨d, hd⟩ : ∃ d, iD s = d := ⟨_, rfl⟩
  obtain ⟨f, hf⟩ : ∃ f, fB d = f := ⟨_, rfl⟩
  rw [hm, hd, hf] at HI
  rw [HI.out, hm, hd]
  rw [hd] at hsz
  have HC := hid (l_cutp w s)
  rw [hm, hd] at HC
  have HF := fun W => hid (l_form W d (by omega))
  rw [hf] at HF
  clear HI hm hd hf
  have run : ∀ r : Bool, (f && !(m && decide (d = ⟨#[48]⟩))) = r → Calls Tryz.prog 114 #[.string s] w fun e w' => e = .returned (.tuple #[.bool m, .string d, .bool r]) ∧ Below w.heap.size w w' := by
    intro r hr
    rcases Decidable.em (d = ⟨#[48]⟩) with rfl | h0
    · simp only [decide_true, Bool.and_true] at hr
      subst hr
      cases f <;> cases m
      all_goals
        go_enter Tryz.func114, Tryz.ntmps114
        go_wp2_with (first
          | (go_at_call 156; refine HC.out.mono ?_; rintro e w' ⟨rfl, rfl⟩)
          | (go_at_call 128; refine (HF _).out.mono ?_; rintro e w' ⟨rfl, hbw⟩)
          | fail)
        go_ret3
        exact ⟨rfl, hbw⟩
    have h48 := ne_lit (l := [48]) h0
    simp only [h0, decide_false, Bool.and_false, Bool.not_false, Bool.and_true] at hr
    subst hr
    cases f <;> cases m
    all_goals
      go_enter Tryz.func114, Tryz.ntmps114
      go_wp2_with (first
        | (go_at_call 156; refine HC.out.mono ?_; rintro e w' ⟨rfl, rfl⟩)
        | (go_at_call 128; refine (HF _).out.mono ?_; rintro e w' ⟨rfl, hbw⟩)
        | fail)
      go_ret3
      exact ⟨rfl, hbw⟩
  exact run _ rfl

set_option maxRecDepth 100000 in
set_option maxHeartbeats 1000000 in
theorem n_Check (w : World) (s : ByteArray) (hs : s.size ≤ 100000000) :
    Calls Tryz.prog 89 #[.string s] w fun e w' => e = .returned (.int .i64 (errN s.data.toList)) ∧ Below w.heap.size w w' := by
  have hsz : s.data.toList.length = s.size := Array.length_toList
  by_cases hf : formB s.data.toList = true
  · by_cases hl : 4000 < s.size
    · rw [errN_long (formB_iff.1 hf) (by omega)]
      have q0 : decide ((4000 : Int) < (s.size : Int)) = true := by simp; omega
      have HF := fun W => hid (l_form W s hs)
      rw [show fB s = true from hf] at HF
      clear hf hl hsz
      go_enter Tryz.func89, Tryz.ntmps89
      go_wp2_with (first
        | (go_at_call 128; refine (HF _).out.mono ?_; rintro e w' ⟨rfl, hbw⟩)
        | fail)
      go_ret
      exact ⟨rfl, hbw⟩
    · rw [errN_ok (formB_iff.1 hf) (by omega)]
      have q0 : decide ((4000 : Int) < (s.size : Int)) = false := by simp; omega
      have HF := fun W => hid (l_form W s hs)
      rw [show fB s = true from hf] at HF
      clear hf hl hsz
      go_enter Tryz.func89, Tryz.ntmps89
      go_wp2_with (first
        | (go_at_call 128; refine (HF _).out.mono ?_; rintro e w' ⟨rfl, hbw⟩)
        | fail)
      go_ret
      exact ⟨rfl, hbw⟩
  · rw [errN_bad (fun h => hf (formB_iff.2 h))]
    have HF := fun W => hid (l_form W s hs)
    rw [show fB s = false from by unfold fB; simpa using hf] at HF
    clear hf hsz
    go_enter Tryz.func89, Tryz.ntmps89
    go_wp2_with (first
      | (go_at_call 128; refine (HF _).out.mono ?_; rintro e w' ⟨rfl, hbw⟩)
      | fail)
    go_ret
    exact ⟨rfl, hbw⟩
end Go.Proofs.YtjgcjjbnnlnilaaGreatDoor

/- Walks: the program's limbs: trim, Of. -/
namespace Go.Proofs.YtjgcjjbnnlnilaaGreatDoor
open Go.RowKit
set_option linter.unusedVariables false

theorem info_u64 : (Tryz.prog.info? 159).map (fun i => (i.zero, i.size, i.bytes)) = some (some (.int .u64 0), 1, 8) := by kernel_rfl

theorem make_nat (n : Nat) (hn : n ≤ 3000000) (W : World) : (Instr.makeSlice 122 (.int .i64 (n : Int)) (.int .i64 (n : Int))).run Tryz.prog W = .ok (.slice (some ⟨W.heap.size, 0, none⟩) n n) (W.alloc (.cells (madeCells #[.int .u64 0] n) 159)) :=
  run_make_row' (P := Tryz.prog) 122 159 (.int .u64 0) 8 Tryz.underlying122 (by kernel_rfl) rfl .i64 .i64 n (by omega) (by omega) W

set_option maxHeartbeats 800000 in
theorem l_trim_at (w : World) (a : Option Addr) (c : Nat) (l : List Nat) (hs : Sm l) (h : Row w (.slice a l.length c) (ints .u64 l)) :
    Calls Tryz.prog 135 #[.slice a l.length c] w fun e w' => RetAt .u64 a c (val l) e w' ∧ w = w' := by
  obtain ⟨a', c', e, h1, h2, h3⟩ := h.openI
  simp at e
  obtain ⟨rfl, rfl⟩ := e
  have H := hid h; have H3 := hid h3; have HS := hid hs; clear h h3 hs
  go_enter Tryz.func135, Tryz.ntmps135
  go_wp2_with fail
  go_loop [0] (fun u => ∃ m : Nat, m ≤ l.length ∧ u = .slice a m c ∧ Hid (∀ j x, m ≤ j → l[j]? = some x → x = 0)) (fun u => match u with | .slice _ m _ => m | _ => 0)
  case atStart => exact ⟨l.length, Nat.le_refl _, rfl, fun j x hj hx => by have := (List.getElem?_eq_some_iff.1 hx).1; omega⟩
  case round =>
    obtain ⟨m, hm, rfl, hz⟩ := hrel
    rcases Nat.eq_zero_or_pos m with h0 | h0
    · subst h0
      go_wp2_with fail
      go_ret
      exact ⟨⟨_, rfl, trim_row H.out HS.out hm hz.out (fun x h => absurd h (by omega))⟩, rfl⟩
    · obtain ⟨x, hx⟩ : ∃ x, l[m - 1]? = some x := ⟨_, List.getElem?_eq_getElem (by omega)⟩
      obtain ⟨g, o, rfl, hg, hc⟩ := H3.out (m - 1) _ hx
      have HX := hid hx; clear hx
      rcases Nat.eq_zero_or_pos x with hx0 | hx0
      · have hb : ((x : Int) == 0) = true := by simp [hx0]
        have HX0 := hid hx0; clear hx0
        go_wp2_with fail
        go_round
        case rel =>
          exact ⟨m - 1, by omega, by go_num, fun j y hj hy => by
            by_cases e : j = m - 1
            · subst e; have := HX.out; rw [hy] at this; cases this; exact HX0.out
            · exact hz.out j y (by omega) hy⟩
        case measure => simp; omega
      · have hb : ((x : Int) == 0) = false := by simp; omega
        go_wp2_with fail
        go_ret
        exact ⟨⟨_, rfl, trim_row H.out HS.out hm hz.out (fun y _ hy => by have := HX.out; rw [hy] at this; cases this; omega)⟩, rfl⟩

theorem l_trim (w : World) (v : Value) (l : List Nat) (hs : Sm l) (h : Row w v (ints .u64 l)) :
    Calls Tryz.prog 135 #[v] w fun e w' => RetN .u64 (val l) e w' ∧ w = w' := by
  obtain ⟨a, c, rfl, h1, h2, h3⟩ := h.openI
  exact (l_trim_at w a c l hs h).mono fun e w' ⟨⟨m, he, hi⟩, hw⟩ => ⟨⟨_, he, hi⟩, hw⟩

theorem trim_ex (l : List Nat) : ∃ m, m ≤ l.length ∧ (∀ j x, m ≤ j → l[j]? = some x → x = 0) ∧ (∀ x, 0 < m → l[m - 1]? = some x → x ≠ 0) := by
  suffices H : ∀ k, k ≤ l.length → (∀ j x, k ≤ j → l[j]? = some x → x = 0) → ∃ m, m ≤ l.length ∧ (∀ j x, m ≤ j → l[j]? = some x → x = 0) ∧ (∀ x, 0 < m → l[m - 1]? = some x → x ≠ 0) from
    H l.length (Nat.le_refl _) (fun j x hj hx => by have := (List.getElem?_eq_some_iff.1 hx).1; omega)
  intro k
  induction k with
  | zero => exact fun _ h => ⟨0, Nat.zero_le _, h, fun x h0 => absurd h0 (by omega)⟩
  | succ k ih =>
    intro hk h
    by_cases h0 : l[k]? = some 0
    · refine ih (by omega) (fun j x hj hx => ?_)
      by_cases e : j = k
      · subst e; rw [h0] at hx; cases hx; rfl
      · exact h j x (by omega) hx
    · exact ⟨k + 1, hk, h, fun x _ hx e => h0 (by simpa [e] using hx)⟩

theorem take_limbs {l : List Nat} (hs : Sm l) : (limbs (val l)).length ≤ l.length ∧ l.take (limbs (val l)).length = limbs (val l) := by
  obtain ⟨m, h1, h2, h3⟩ := trim_ex l
  have h := limbs_take hs h1 h2 h3
  have hm : (limbs (val l)).length = m := by rw [← h, List.length_take_of_le h1]
  rw [hm]
  exact ⟨h1, h⟩

/-- What trimming leaves of a row. -/
theorem trim_isN {k : IntKind} {w : World} {a : Option Addr} {c : Nat} {l : List Nat} (hs : Sm l) (h : Row w (.slice a l.length c) (ints k l)) : IsN k w (.slice a (limbs (val l)).length c) (val l) := by
  obtain ⟨h1, h2⟩ := take_limbs hs
  have := h.cut h1
  rw [ints_take, h2] at this
  exact this

/-- Trimming, its value written out. -/
theorem l_trim_to (w : World) (a : Option Addr) (c : Nat) (l : List Nat) (hs : Sm l) (h : Row w (.slice a l.length c) (ints .u64 l)) :
    Calls Tryz.prog 135 #[.slice a l.length c] w fun e w' => e = .returned (.slice a (limbs (val l)).length c) ∧ w' = w :=
  (l_trim_at w a c l hs h).mono fun e w' ⟨⟨m, he, hi⟩, hw⟩ => ⟨by rw [he]; have := hi.len.1; rw [ints_length] at this; rw [this], hw.symm⟩

theorem limbs_split {n m : Nat} {s : List Nat} (h : limbs n = s ++ limbs m) (hm : 0 < m) : limbs n = (s ++ [m % 1000000000]) ++ limbs (m / 1000000000) := by
  rw [h, limbs_pos hm, List.append_assoc]; rfl

set_option maxHeartbeats 2000000 in
theorem l_Of (w : World) (n : Nat) (hn : n < 18446744073709551616) : Calls Tryz.prog 143 #[.int .u64 n] w fun e w' => RetN .u64 n e w' ∧ Below w.heap.size w w' := by
  obtain ⟨i0, hi, hz0, hz1, hz2⟩ := info_parts info_u64
  have HN := hid hn
  have hn2 : (n : Int) ≤ 18446744073709551615 := by omega
  clear hn
  go_enter Tryz.func143, Tryz.ntmps143
  go_wp2_with fail
  go_loopw [0, 3] (fun nn o wr => ∃ (s : List Nat) (m : Nat), nn = .int .u64 m ∧ s.length ≤ 3 ∧ m ≤ n ∧ Hid (m = 0 ∨ s.length = 0 ∨ (s.length = 1 ∧ m < 18446744074) ∨ (s.length = 2 ∧ m < 19)) ∧ Hid (limbs n = s ++ limbs m) ∧ Hid (wr.ownsRow w.heap.size 159 1 o s.length (ints .u64 s)) ∧ Hid (Below w.heap.size w wr)) (fun nn _ _ => (intOf nn).toNat)
  case atStart => exact ⟨[], n, rfl, by simp, Nat.le_refl _, .inr (.inl rfl), rfl, World.ownsRow_nil _ _ _ _, Below.refl _ _⟩
  case round =>
    obtain ⟨s, m, rfl, hs, hmn, hc, hl, hO, hB⟩ := hrel
    obtain ⟨ao, co, rfl⟩ := owns_ex hO.out
    rcases Nat.eq_zero_or_pos m with h0 | h0
    · subst h0
      go_wp2_with fail
      go_ret
      exact ⟨⟨_, rfl, owns_isN hO.out (by have := hl.out; rw [limbs_zero, List.append_nil] at this; exact this.symm)⟩, hB.out⟩
    · have HL := hid (limbs_split hl.out h0)
      have hs2 : s.length ≤ 2 := by rcases hc.out with h | h | h | h <;> omega
      have HC := hid (show m / 1000000000 = 0 ∨ (s ++ [m % 1000000000]).length = 0 ∨ ((s ++ [m % 1000000000]).length = 1 ∧ m / 1000000000 < 18446744074) ∨ ((s ++ [m % 1000000000]).length = 2 ∧ m / 1000000000 < 19) from by
        have := HN.out
        rw [List.length_append, List.length_singleton]
        rcases hc.out with h | h | h | h <;> omega)
      have q0 : decide ((0 : Int) < (m : Int)) = true := by simp; omega
      go_wp2_with (at_builtin; refine wpList_append_own _ rfl _ _ 122 rfl w.heap.size 159 i0 (.int .u64 0) 1 8 Tryz.underlying122 hi hz0 hz1 hz2 rfl (by decide) _ s.length _ rfl (hO.out.alloc _) ⟨wr.heap.size, 0, none⟩ 1 1 [.int .u64 ((m : Int) % 1000000000)] rfl rfl (cell_one_new wr (.int .u64 ((m : Int) % 1000000000)) 159) (by simp [Value.oneCell']) (by unfold maxLen; omega) (by omega) (by have := hB.out.size; simp; omega) ?_; intro v' w3 hown3 hgrow3 _; have HO3 := hid hown3; have HG3 := hid hgrow3; clear hown3 hgrow3)
      obtain ⟨n1, n2⟩ := own_next (z := m % 1000000000) hO.out hB.out HO3.out HG3.out
      have N1 := hid n1; have N2 := hid n2; clear n1 n2 HO3 HG3
      obtain ⟨a3, k3, rfl⟩ := owns_ex N1.out
      go_wp2_with fail
      go_roundw
      case rel => exact ⟨s ++ [m % 1000000000], m / 1000000000, by go_num, by simp <;> omega, by omega, HC, HL, N1, N2⟩
      case measure => simp [intOf] <;> omega
end Go.Proofs.YtjgcjjbnnlnilaaGreatDoor

/- A law of my own for a range over a function: the iterator's contract says what it hands over in each round, and the body of a round may use it. No program in sight. -/
namespace Go.Proofs.YtjgcjjbnnlnilaaGreatDoor
open Go.RowKit

/-- What a function value that is ranged over promises: it hands over an element x behind those of pre only where 'Ok pre x' holds. A round that goes on keeps Kp. All have come: S. A round has said 'no more': Sp. -/
def Feeds {α : Type} (n : Nat) (P : Program) (g : Nat) (lb : Array Value) (encs : α → Array Value) (Kp : World → World → Prop) (Ok : List α → α → Prop) (S Sp : List α → Prop) (w : World) : Prop :=
  ∀ (l : Nat) (J Jx : List α → World → Prop) (W : World), Below w.heap.size w W → AbidesFrom W.heap.size J → AbidesFrom W.heap.size Jx →
    (∀ pre x W1, Ok pre x → J pre W1 → YieldAt Fence.wide (n - 1) P l (encs x) W1 fun e W2 =>
      (e = .returned (.bool true) ∧ J (pre ++ [x]) W2 ∧ Kp W1 W2) ∨ (e = .returned (.bool false) ∧ Jx (pre ++ [x]) W2)) →
    J [] W →
    CallsIn Fence.wide n P g (#[.func (.yield l) #[] #[]] ++ lb) W fun e W2 => (∃ v, e = .returned v) ∧ ((∃ xs, S xs ∧ J xs W2) ∨ (∃ pre, Sp pre ∧ Jx pre W2))

/-- What the rounds leave alone of the statement's own: its record, in the given state, and the block for deferred calls. -/
structure Kept (D : Nat) (r : Loop) (W : World) : Prop where
  loop : W.heap[D + 1]? = some (.loop r)
  calls : W.heap[D]? = some (.deferred (some []))

theorem Kept.cells {D : Nat} {r : Loop} {W W2 : World} {row : Option Nat} (h : Kept D r W) (hg : W.grownBy W2 row) (hr : ∀ k, row = some k → ∃ o : Obj, W.heap[k]? = some o ∧ o.isWalk = true) : Kept D r W2 :=
  ⟨(grownBy_keeps hg hr h.loop rfl).trans h.loop, (grownBy_keeps hg hr h.calls rfl).trans h.calls⟩

theorem Kept.put {D : Nat} {r : Loop} {W : World} (h : Kept D r W) (r2 : Loop) : Kept D r2 (W.putObj (D + 1) (.loop r2)) :=
  ⟨World.putObj_heap_same (Array.getElem?_eq_some_iff.1 h.loop).1, (World.putObj_heap_other (by omega)).trans h.calls⟩

theorem Kept.from {B D : Nat} {r : Loop} {W W2 : World} (h : Kept D r W) (k : KeepsFrom B W W2) (hB : B ≤ D) : Kept D r W2 :=
  ⟨k.same _ _ (by omega) h.loop rfl, k.same _ _ hB h.calls rfl⟩

theorem own_put {β : Type} {B D : Nat} {I : β → World → Prop} (hI : OwnFrom B I) {r : Loop} {s : β} {W : World} (h : Kept D r W) (hB : B ≤ D) (hs : I s W) (o : Obj) : I s (W.putObj (D + 1) o) :=
  hI.putObj o hs (by omega) h.loop rfl

/-- A RANGE OVER A FUNCTION, at the wide fence: the body of a round knows what it is handed. -/
theorem range_ok {α : Type} {P : Program} {n : Nat} {g : Operand} {ps : Array Tmp} {assign body : Code} {Q : Exit → Act → World → Prop} {a : Act} {w : World} (h1 : 1 ≤ n)
    {gf : Nat} {lb : Array Value} (hg : a.eval g = .func (.func gf) #[] lb) (eg : ∀ args w, (callFunc gf args).run P w = .ok (.enter gf args) w)
    {encs : α → Array Value} {Kp : World → World → Prop} {Ok : List α → α → Prop} {S Sp : List α → Prop} {w0 : World} (hseq : Feeds (n - 1) P gf lb encs Kp Ok S Sp w0)
    (hKt : ∀ {A B C : World}, Kp A B → Kp B C → Kp A C) (hKb : ∀ (W : World) (l : Nat) (o o2 : Obj), w.heap.size ≤ l → W.heap[l]? = some o → o.isCells = false → o.isWalk = false → Kp W (W.putObj l o2)) (hb0 : Below w0.heap.size w0 w) (hps : ∀ x, (encs x).size = ps.size)
    (I : List α → World → Prop) (Ix : Code → List α → World → Prop) (hI : OwnFrom w.heap.size I) (hIx : ∀ c, OwnFrom w.heap.size (Ix c)) (h0 : I [] w) (a1 : α → Act)
    (hassign : ∀ (l : Nat) (x : α) (W : World) (K : Act → World → Prop), K (a1 x) W →
      assign.wpIn (Fence.wide.inRound l) (n - 1 - 1) P (Exit.then K (fun _ _ _ => False)) { tmps := (ps.zip (encs x)).foldl (fun t (p, v) => t.setIfInBounds p v) a.tmps, defers := [] } W)
    (hbody : ∀ (l : Nat) (pre : List α) (x : α) (W : World), Ok pre x → I pre W → body.wpIn (Fence.wide.inRound l) (n - 1 - 1) P (ownPostG w.heap.size Kp I Ix (pre ++ [x]) W) (a1 x) W)
    (hdone : ∀ (D : Nat) (xs : List α) (W : World), w.heap.size ≤ D → S xs → I xs W → W.heap[D]? = some (.deferred (some [])) → Q .normal { a with defers := { target := .collected D, args := #[] } :: a.defers } W)
    (hstop : ∀ (D : Nat) (c : Code) (pre : List α) (W : World), w.heap.size ≤ D → Sp pre → Ix c pre W → W.heap[D]? = some (.deferred (some [])) → c.wpIn Fence.wide n P Q { a with defers := { target := .collected D, args := #[] } :: a.defers } W) :
    (Code.rangeFunc g ps assign body).wpIn Fence.wide n P Q a w := by
  refine wpIn_rangeFunc fun fn hfn => ?_
  obtain ⟨R, hR⟩ : ∃ R : LoopState → Option Code → Loop, ∀ s p, R s p = { state := s, pending := p, fn, tmps := a.tmps, params := ps, assign, body, defers := w.heap.size } := ⟨_, fun _ _ => rfl⟩
  have hs : ∀ s p, (R s p).state = s := fun s p => by rw [hR]
  obtain ⟨W1, e1⟩ : ∃ W1, W1 = (w.alloc (.deferred (some []))).alloc (.loop (R .ready none)) := ⟨_, rfl⟩
  have z1 : w.heap.size ≤ W1.heap.size := by rw [e1]; simp; omega
  have k1 : Kept w.heap.size (R .ready none) W1 := by
    rw [e1]
    refine ⟨?_, (Below.heap_alloc _ _ _ (by simp)).trans (World.alloc_heap_new w _)⟩
    have := World.alloc_heap_new (w.alloc (.deferred (some []))) (.loop (R .ready none))
    rwa [World.size_alloc] at this
  have i1 : I [] W1 := by rw [e1]; exact hI.alloc _ (hI.alloc _ h0)
  have b1 : Below w0.heap.size w0 W1 := by
    have : Below w.heap.size w W1 := by rw [e1]; exact ((Below.refl _ w).alloc (Nat.le_refl _) _).alloc (by simp) _
    exact hb0.trans (this.mono hb0.size)
  refine ⟨w.heap.size + 1, [{ target := .collected w.heap.size, args := #[] }], W1, { target := .fn (.func gf) lb, args := #[.func (.yield (w.heap.size + 1)) #[] #[]] }, W1, gf, #[.func (.yield (w.heap.size + 1)) #[] #[]] ++ lb, W1, ?_, ?_, fun f hf => trivial, ?_, fun _ => h1, ?_⟩
  · have := run_enterLoop_outer (P := P) (w := w) fn a.tmps ps assign body
    rw [e1, hR]; exact this
  · simp only [resolve, hg]
    simp [go_sem]
  · simp [invoke, go_sem, eg]
  · refine (hseq (w.heap.size + 1) (fun pre W => I pre W ∧ Kept w.heap.size (R .ready none) W) (fun pre W => ∃ c, Ix c pre W ∧ Kept w.heap.size (R .done (some c)) W) W1 b1
      (fun s A B row hs hg2 hr => ⟨hI s A B row hs.1 hg2 (fun k e => ?_), hs.2.cells hg2 (fun k e => (hr k e).2)⟩)
      (fun s A B row hs hg2 hr => ?_) (fun pre x W hok hJ => ?_) ⟨i1, k1⟩).mono ?_
    · obtain ⟨h2, o, h3, h4⟩ := hr k e
      exact ⟨Nat.le_trans z1 h2, o, h3, Obj.not_cells_of_walk h4⟩
    · obtain ⟨c, hc, hk⟩ := hs
      refine ⟨c, hIx c s A B row hc hg2 (fun k e => ?_), hk.cells hg2 (fun k e => (hr k e).2)⟩
      obtain ⟨h2, o, h3, h4⟩ := hr k e
      exact ⟨Nat.le_trans z1 h2, o, h3, Obj.not_cells_of_walk h4⟩
    · obtain ⟨hi, hk⟩ := hJ
      have hy := run_yield (P := P) (args := encs x) hk.loop (by rw [hR]; exact hps x)
      have kb := hk.put (R .busy none)
      have bg := run_beginRound (P := P) hk.loop (hs _ _)
      rw [show ({ R .ready none with state := .busy } : Loop) = R .busy none by rw [hR, hR]] at bg
      have kk : Kp W (W.putObj (w.heap.size + 1) (.loop (R .busy none))) := hKb _ _ _ _ (by omega) hk.loop rfl rfl
      rw [hR] at hy
      refine ⟨fn, _, assign, body, hy, roundIn_of_wpIn hfn (hassign _ x W _ ⟨_, bg, ?_⟩)⟩
      refine wpIn_mono (hbody _ pre x _ hok (own_put hI hk (Nat.le_refl _) hi _)) ?_
      have fin : ∀ (j : Option Code) (W3 : World), Kept w.heap.size (R .busy none) W3 → (Instr.endRound (w.heap.size + 1) j).run P W3 = .ok (.bool j.isNone) (W3.putObj (w.heap.size + 1) (.loop (R (if j.isNone then .ready else .done) j))) := fun j W3 h3 => by
        have := run_endRound (P := P) j h3.loop
        rw [this, hR, hR]
      rintro e a3 W3 hp
      cases e with
      | normal =>
        obtain ⟨p1, p2, p3⟩ := hp
        have k3 := kb.from p1 (Nat.le_refl _)
        exact ⟨_, _, fin none W3 k3, .inl ⟨rfl, ⟨own_put hI k3 (Nat.le_refl _) p3 _, k3.put _⟩, hKt (hKt kk p2) (hKb _ _ _ _ (by omega) k3.loop rfl rfl)⟩⟩
      | ret =>
        have k3 := kb.from hp.1 (Nat.le_refl _)
        exact ⟨_, _, fin (some .ret) W3 k3, .inr ⟨rfl, .ret, own_put (hIx _) k3 (Nat.le_refl _) hp.2 _, k3.put _⟩⟩
      | exit id =>
        have k3 := kb.from hp.1 (Nat.le_refl _)
        exact ⟨_, _, fin (some (.exit id)) W3 k3, .inr ⟨rfl, .exit id, own_put (hIx _) k3 (Nat.le_refl _) hp.2 _, k3.put _⟩⟩
      | goto t =>
        have k3 := kb.from hp.1 (Nat.le_refl _)
        exact ⟨_, _, fin (some (.goto t)) W3 k3, .inr ⟨rfl, .goto t, own_put (hIx _) k3 (Nat.le_refl _) hp.2 _, k3.put _⟩⟩
      | panic ch => exact hp.elim
      | outgrown => exact hp.elim
    · have en : ∀ {s p W2}, Kept w.heap.size (R s p) W2 → s ≠ .busy → (Instr.endLoop (w.heap.size + 1)).run P W2 = .ok p (W2.putObj (w.heap.size + 1) (.loop (R .exhausted p))) := fun {s p W2} h2 hne => by
        have := run_endLoop (P := P) h2.loop (by rw [hs]; exact hne)
        rw [this, hR, hR]
      rintro e W2 ⟨⟨v, rfl⟩, ⟨xs, hS, hi, hk⟩ | ⟨pre, hSp, c, hi, hk⟩⟩
      · exact ⟨none, _, en hk (by simp), hdone _ xs _ (Nat.le_refl _) hS (own_put hI hk (Nat.le_refl _) hi _) (hk.put (R .exhausted none)).calls⟩
      · exact ⟨some c, _, en hk (by simp), hstop _ c pre _ (Nat.le_refl _) hSp (own_put (hIx c) hk (Nat.le_refl _) hi _) (hk.put (R .exhausted (some c))).calls⟩

/-- No operation is a defer statement. -/
def noDefer (l : List Oper) : Bool := l.all fun o => match o.op with | .defer _ => false | _ => true

theorem noDefer_at {l : List Oper} (h : noDefer l = true) {i : Nat} {o : Oper} (ho : l.toArray[i]? = some o) : ∀ c, o.op ≠ .defer c := by
  intro c e
  rw [List.getElem?_toArray] at ho
  have := List.all_eq_true.1 h o (List.mem_of_getElem? ho)
  rw [e] at this
  cases this

theorem upon_round {F : Fence} {n : Nat} {P : Program} {o : Oper} {a : Act} {next : Act → World → Prop} {Q : Exit → Act → World → Prop} (l : Nat) : ∀ r : Result Next, o.uponIn F n P a next Q r → o.uponIn (F.inRound l) n P a next Q r
  | .ok (.value _) _, h => h
  | .ok .skip _, h => h
  | .ok (.defer _) _, h => h
  | .ok (.enter _ _) _, h => h
  | .ok (.row _ _) _, h => h
  | .ok (.round _ _ _ _ _) _, h => h
  | .halt (.panic _) _, h => h
  | r, h => by
    unfold Oper.uponIn at *
    split at h <;> first | exact h | (exfalso; exact h)

theorem any_round {F : Fence} {n : Nat} {P : Program} {l : List Oper} {Q : Exit → Act → World → Prop} {md : Region.Mode} (hro : F.round = none) (hd : noDefer l = true) (l0 : Nat) : ∀ (fuel : Nat) (listed : Array Bool) (a : Act) (w : World),
    wpAnyIn F n P md l.toArray Q fuel listed a w → wpAnyIn (F.inRound l0) n P md l.toArray Q fuel listed a w := by
  intro fuel
  induction fuel with
  | zero => exact fun _ _ _ h => h
  | succ fuel ih =>
    rintro listed a w ⟨h1, h2⟩
    refine ⟨h1, fun i hi => ?_⟩
    have h := h2 i hi
    unfold wpOpIn at *
    split at h
    · exact ih _ _ _ h
    · rename_i o he
      split at h
      · rename_i hw
        rw [if_pos hw]
        refine ⟨h.1, ?_⟩
        have h3 := (Oper.wpIn_mono (K' := wpAnyIn (F.inRound l0) n P md l.toArray Q fuel (listed.setIfInBounds i true)) (fun a w h => ih _ a w h) h).2
        rw [hro, Oper.semAt_none] at h3
        rw [Fence.inRound_round, Oper.semAt_some l0 _ o (noDefer_at hd he)]
        exact upon_round l0 _ h3
      · rename_i hw
        rw [if_neg hw]
        exact ⟨h.1, ih _ _ _ h.2⟩

/-- A region that draws its order and only reads, within a round. -/
theorem quiet_round {n : Nat} {P : Program} {id : Nat} {Q : Exit → Act → World → Prop} {a : Act} {w : World} {l : List Oper} {l0 : Nat} (hm : P.follows .mixedOrders = true) (hB : Region.lexB .any l.toArray = true) (hd : noDefer l = true)
    (h : wpQuietIn Fence.wide n P l.toArray (fun w' => ∃ n, w' = w.drewN n) (fun a' => ∀ w', (∃ n, w' = w.drewN n) → Q .normal a' w') l a) : (Code.region id l.toArray true).wpIn (Fence.wide.inRound l0) n P Q a w := by
  have hB2 := hB
  simp only [Region.lexB, Bool.and_eq_true] at hB2
  refine wpIn_region_any hm (any_round rfl hd l0 _ _ _ _ (wpAnyIn_of_quiet (C := fun w' => ∃ n, w' = w.drewN n) (Q := fun a' => ∀ w', (∃ n, w' = w.drewN n) → Q .normal a' w') rfl (fun _ w' hw' h => h w' hw') _ _ _ _ ⟨1, rfl⟩ ?_))
  have := wpAnyQIn_lex (F := Fence.wide) (n := n) (C := fun w' => ∃ n, w' = w.drewN n) (md := .any) hB2.1 l.toArray.toList 0 (Array.replicate l.toArray.size false) a (by simp) (by simpa using hB2.2) (by simpa using h)
  simpa using this
end Go.Proofs.YtjgcjjbnnlnilaaGreatDoor

/- Walks: slices.Backward over the program's limbs: what the iterator hands over. -/
namespace Go.Proofs.YtjgcjjbnnlnilaaGreatDoor
open Go.RowKit Go.Shelf
set_option linter.unusedVariables false
attribute [local go_sem] Oper.semAt_some

set_option maxRecDepth 100000 in
set_option maxHeartbeats 2000000 in
/-- slices.Backward: the indices from the last one down, each with what lies there then. -/
theorem back_feeds {Kp : World → World → Prop} {V : Nat → Int → Prop} (n : Nat) (hn : 1 ≤ n) (Bs len cap : Nat) (a : Option Addr) (hlen : len ≤ 9000000000000000000) (hcap : len ≤ cap) (w : World) (hKr : ∀ W, Kp W W) (hKt : ∀ {A B C : World}, Kp A B → Kp B C → Kp A C)
    (hread : ∀ W1 W2, Below w.heap.size w W1 → Kp W1 W2 → W2.cell? ⟨Bs, 0, none⟩ = some (.slice a len cap) ∧ ∀ i, i < len → ∃ g o z, a = some ⟨g, o, none⟩ ∧ W2.cell? ⟨g, o + i, none⟩ = some (.int .u64 z) ∧ V i z) :
    Feeds n Tryz.prog 169 #[.pointer (some ⟨Bs, 0, none⟩)] (fun x : Nat × Int => #[.int .i64 (x.1 : Int), .int .u64 x.2]) Kp (fun pre x => x.1 + 1 + pre.length = len ∧ V x.1 x.2) (fun xs => xs.length = len) (fun _ => True) w := by
  intro l J Jx W hW hJ hJx hY h0
  obtain ⟨hb0, -⟩ := hread W W hW (hKr W)
  have HR := hid hread; have HY := hid hY; have HW := hid hW; have HJ := hid hJ; have HJx := hid hJx
  have HKr := hid hKr; have HKt : Hid (∀ A B C : World, Kp A B → Kp B C → Kp A C) := fun A B C h k => hKt h k
  clear hread hY hW hJ hJx hKr hKt
  refine callsIn_of_wp Tryz.func169 rfl trivial ?_ rfl
  simp only [Tryz.ntmps169, List.size_toArray, List.length_cons, List.length_nil, Nat.reduceAdd, Nat.reduceSub, Array.replicate_succ, Array.replicate_zero, List.push_toArray, List.append_toArray, List.nil_append, List.cons_append]
  gi_wp2
  clear hb0
  gi_loopw [3] (fun i wr => ∃ (k : Nat) (t : Int) (pre : List (Nat × Int)), i = .int .i64 t ∧ t = (k : Int) - 1 ∧ k ≤ len ∧ Hid (pre.length + k = len) ∧ J pre wr ∧ Hid (Kp W wr))
    (fun i _ => (intOf i + 1).toNat)
  case atStart => exact ⟨len, _, [], rfl, rfl, Nat.le_refl _, by rw [Hid]; simp, h0, HKr.out W⟩
  case round =>
    obtain ⟨k, t, pre, rfl, ht, hk, hp, hJs, hK⟩ := hrel
    cases k with
    | zero =>
      obtain rfl : t = -1 := by omega
      clear ht
      gi_wp2
      go_end0
      exact ⟨⟨_, rfl⟩, .inl ⟨pre, by have := hp.out; omega, hJs⟩⟩
    | succ j =>
      obtain rfl : t = (j : Int) := by omega
      clear ht
      obtain ⟨hb, hc⟩ := HR.out W wr HW.out hK.out
      obtain ⟨g, o, z, rfl, hcell, hV⟩ := hc j (by omega)
      clear hc
      obtain ⟨fn, tmps, assign, body, hy, hR⟩ := HY.out pre (j, z) wr ⟨by have := hp.out; omega, hV⟩ hJs
      dsimp only at hy
      have HV := hid hV; clear hV
      gi_wp2
      refine hR.mono ?_
      rintro e W3 (⟨rfl, hJ3, hk3⟩ | ⟨rfl, hJx3⟩)
      · have HK3 := hid (HKt.out _ _ _ hK.out hk3)
        clear hk3
        gi_wp2
        go_roundw
        case rel => exact ⟨j, _, pre ++ [(j, z)], rfl, rfl, by omega, by rw [Hid]; have := hp.out; simp; omega, hJ3, HK3⟩
        case measure => simp [intOf] <;> omega
      · gi_wp2
        refine bodyPost_ret (results_none rfl _ _ _) rfl ?_
        exact ⟨⟨_, rfl⟩, .inr ⟨_, trivial, hJx3⟩⟩

/-- slices.Backward(s): the slice value is boxed; the function value captures the box. -/
theorem back_call (a : Option Addr) (len cap : Nat) (w : World) :
    Calls Tryz.prog 137 #[.slice a len cap] w fun e w' => e = .returned (.func (.func 169) #[] #[.pointer (some ⟨w.heap.size, 0, none⟩)]) ∧ w' = w.alloc (.cells #[.slice a len cap] 122) := by
  go_enter Tryz.func137, Tryz.ntmps137
  go_wp2_with fail
  go_ret
  exact ⟨rfl, rfl⟩

/-- What a round keeps: what lay below n0, and the block bs. -/
def KpB (n0 bs : Nat) (W W2 : World) : Prop := Below n0 W W2 ∧ W2.heap[bs]? = W.heap[bs]?

theorem KpB.refl (n0 bs : Nat) (W : World) : KpB n0 bs W W := ⟨Below.refl _ _, rfl⟩
theorem KpB.trans {n0 bs : Nat} {A B C : World} (h : KpB n0 bs A B) (k : KpB n0 bs B C) : KpB n0 bs A C := ⟨h.1.trans k.1, k.2.trans h.2⟩
theorem KpB.put {n0 bs : Nat} {w : World} (hn : n0 ≤ w.heap.size) (hb : bs < w.heap.size) (W : World) (l : Nat) (o o' : Obj) (hl : w.heap.size ≤ l) (h : W.heap[l]? = some o) (h1 : o.isCells = false) (h2 : o.isWalk = false) : KpB n0 bs W (W.putObj l o') :=
  ⟨belowK_b hn W l o o' hl h h1 h2, World.putObj_heap_other (by omega)⟩
theorem KpB.blk {n0 bs : Nat} {W W2 : World} (h : KpB n0 bs W W2) {cs : Array Value} {t : TypeId} (hb : Blk W bs cs t) : Blk W2 bs cs t := h.2.trans hb

theorem Blk.kept {W W2 : World} {b : Nat} {cs : Array Value} {t : TypeId} {row : Option Nat} (h : Blk W b cs t) (hg : W.grownBy W2 row) (hr : ∀ r, row = some r → ∃ o : Obj, W.heap[r]? = some o ∧ o.isCells = false) : Blk W2 b cs t := by
  refine h.grown hg (fun e => ?_)
  obtain ⟨o, ho, hc⟩ := hr b e
  unfold Blk at h
  rw [h] at ho
  cases ho
  cases hc

/-- The end of a function that holds a range over a function. -/
theorem marks_end {n : Nat} {P : Program} {fn : Func} {R : Ending → World → Prop} {tmps : Array Value} {W : World} {D : Nat} {v : Value} (hK : W.heap[D]? = some (.deferred (some [])))
    (hv : (results fn tmps).run P (W.putObj D (.deferred none)) = .ok v (W.putObj D (.deferred none))) (hR : R (.returned v) (W.putObj D (.deferred none))) :
    bodyPostM Fence.wide n P fn R .ret { tmps := tmps, defers := [{ target := .collected D, args := #[] }] } W :=
  ⟨by simp, .inl ⟨_, _, rfl, run_takeDeferred hK, ⟨v, hv, hR⟩⟩⟩

theorem Blk.put {W : World} {b D : Nat} {cs : Array Value} {t : TypeId} (h : Blk W b cs t) (hK : W.heap[D]? = some (.deferred (some []))) (o : Obj) : Blk (W.putObj D o) b cs t :=
  h.kept (grownBy_putObj' _ D o) (fun r e => by cases e; exact ⟨_, hK, rfl⟩)

theorem Row.put {W : World} {D : Nat} {v : Value} {xs : List Value} (h : Row W v xs) (hK : W.heap[D]? = some (.deferred (some []))) (o : Obj) : Row (W.putObj D o) v xs := by
  obtain ⟨a, c, rfl, h1, h2, h3⟩ := h.ex
  refine ⟨a, c, rfl, h1, h2, fun i x hx => ?_⟩
  obtain ⟨g, og, e, hg, hc⟩ := h3 i x hx
  have hgb := grownBy_putObj' W D o
  exact ⟨g, og, e, Nat.lt_of_lt_of_le hg hgb.size, cell_kept hc hgb (fun r e => by cases e; exact ⟨_, hK, rfl⟩)⟩
theorem IsN.put {k : IntKind} {W : World} {D : Nat} {v : Value} {n : Nat} (h : IsN k W v n) (hK : W.heap[D]? = some (.deferred (some []))) (o : Obj) : IsN k (W.putObj D o) v n := Row.put h hK o
end Go.Proofs.YtjgcjjbnnlnilaaGreatDoor

/- Walks: the program's limbs: Digits. -/
namespace Go.Proofs.YtjgcjjbnnlnilaaGreatDoor
open Go.RowKit Go.Shelf
set_option linter.unusedVariables false

theorem last_limb {a n : Nat} (hn : (limbs a).length = n + 1) : ∃ x, (limbs a)[n]? = some x ∧ x < 1000000000 ∧ 0 < x ∧ Lib.nDigits a = 9 * n + Lib.nDigits x ∧ val ((limbs a).drop n) = x := by
  have hne : limbs a ≠ [] := fun e => by simp [e] at hn
  obtain ⟨x, hx⟩ : ∃ x, (limbs a)[n]? = some x := ⟨_, List.getElem?_eq_getElem (by omega)⟩
  have hl : (limbs a).getLast hne = x := by
    have h := List.getElem?_eq_some_iff.1 hx
    obtain ⟨h1, h2⟩ := h
    rw [List.getLast_eq_getElem hne, ← h2]
    congr 1
    omega
  have hx' : (limbs a).getLast? = some x := by rw [List.getLast?_eq_some_getLast hne, hl]
  have hp := limbs_last a x hx'
  refine ⟨x, hx, (sm_limbs a).get hx, by omega, ?_, ?_⟩
  · have := nDigits_limbs (sm_limbs a) hne (limbs_last a)
    rw [val_limbs, hl, hn] at this
    simpa using this
  · rw [List.drop_eq_getElem_cons (by omega), List.drop_of_length_le (by omega)]
    have h := List.getElem?_eq_some_iff.1 hx
    obtain ⟨h1, h2⟩ := h
    rw [h2]
    simp [val]

set_option maxRecDepth 100000 in
set_option maxHeartbeats 4000000 in
theorem l_Digits (w : World) (v : Value) (a : Nat) (ha : IsN .u64 w v a) (hL : Lay w) (hla : (limbs a).length ≤ 1000000) :
    Calls Tryz.prog 148 #[v] w fun e w' => e = .returned (.int .i64 (Lib.nDigits a : Nat)) ∧ Below w.heap.size w w' := by
  obtain ⟨a1, c1, rfl, h1, h2, h3⟩ := ha.openI
  have H3 := hid h3; clear h3 ha
  by_cases h0 : (limbs a).length = 0
  · rw [h0]
    have ea : a = 0 := limbs_nil.1 (List.eq_nil_of_length_eq_zero h0)
    go_enter Tryz.func148, Tryz.ntmps148
    go_wp2_with fail
    go_ret
    refine ⟨?_, Below.refl _ _⟩
    rw [ea, show Lib.nDigits 0 = 1 by rw [Lib.nDigits_small (by omega)]]
    rfl
  · obtain ⟨n, ea⟩ : ∃ n, (limbs a).length = n + 1 := ⟨(limbs a).length - 1, by omega⟩
    obtain ⟨x, hx, hx1, hx2, hd, -⟩ := last_limb ea
    obtain ⟨g, o, rfl, hg, hc⟩ := H3.out n x hx
    rw [ea] at h1 hla ⊢
    have hw1 : IntKind.i64.wrap (((n + 1 : Nat) : Int) - 1) = (n : Int) := by rw [IntWalk.i64_in _ ⟨by omega, by omega⟩]; omega
    have hw2 : IntKind.i64.wrap (9 * (n : Int)) = 9 * (n : Int) := IntWalk.i64_in _ ⟨by omega, by omega⟩
    have hdl : Lib.nDigits x ≤ 9 := nDigits_le (by omega) (by omega)
    have hw3 : IntKind.i64.wrap (9 * (n : Int) + ((Lib.nDigits x : Nat) : Int)) = ((Lib.nDigits a : Nat) : Int) := by rw [IntWalk.i64_in _ ⟨by omega, by omega⟩]; omega
    have hlen : (Lib.decDigits x).length = Lib.nDigits x := Lib.decDigits_length x
    clear hd hdl
    go_enter Tryz.func148, Tryz.ntmps148
    go_wp2_with (first
      | (go_at_call 146; refine (l_fmt _ x (by omega) hL).mono ?_; rintro e w' ⟨rfl, hb⟩)
      | fail)
    go_ret
    exact ⟨rfl, hb⟩
#print axioms l_Digits
end Go.Proofs.YtjgcjjbnnlnilaaGreatDoor
