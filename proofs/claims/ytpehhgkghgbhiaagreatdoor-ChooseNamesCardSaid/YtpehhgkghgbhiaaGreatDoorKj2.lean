/- Texts that the proof rests on, merged: L15, QD, C2h, G1, Sh4, G1c, Q, QW, L3, LimbDiv, Step, ArrP, L5, Seq, L6, Last. -/
import Derived.Test.YtpehhgkghgbhiaaGreatDoorKj1
import Derived.OwnWalk
import Derived.Shelf.Small.Wraps
import Derived.Shelf.Strings.Shaped
import Derived.Ground.NamesProg
import Derived.Test.YtpehhgkghgbhiaaGreatDoorProg
import Derived.IntWalk
import Derived.Deep.DeepCutAuto
import Derived.Deep.CutBlock
import Derived.RangeFuncNested
import Derived.RangeFuncBound
import Derived.RangeFuncCalls
import Derived.RangeFuncLeaves
import Derived.Sort.BigQuietIn
import Derived.RangeFuncBox
import Derived.Shelf.Abstract
import Derived.Shelf.RegionOpen
import Derived.OwnWalkIn
import Derived.TacticsInMore
import Derived.LoopNIn
import Derived.LoopIn
import Derived.Orders
import Derived.WalkKit
import Derived.OrdersHeld
namespace Go.Proofs.YtpehhgkghgbhiaaGreatDoor
open Go.RowKit Go.Shelf Go.Lib
set_option linter.unusedVariables false
theorem extract_list (s : ByteArray) (a e : Nat) : (s.extract a e).data.toList = (s.data.toList.drop a).take (e - a) := by
  rw [ByteArray.data_extract, Array.toList_extract]
theorem parse_digs : ∀ (l : List UInt8) (acc : Nat), allDig l → 10 ^ l.length * (acc + 1) ≤ 10 ^ 9 → parseUintM 18446744073709551615 acc l = .ok (10 ^ l.length * acc + dv l)
  | [], acc, _, _ => by simp [parseUintM]
  | c :: r, acc, hd, hb => by
    have hc := isDig_iff.1 (hd c (by simp))
    have hr : allDig r := fun b hb => hd b (by simp [hb])
    rw [List.length_cons, Nat.pow_succ] at hb
    have hp : 0 < 10 ^ r.length := Nat.pow_pos (by omega)
    have h2 : 10 ^ r.length * (acc * 10 + (c.toNat - 48) + 1) ≤ 10 ^ 9 := by
      refine Nat.le_trans (Nat.mul_le_mul_left _ (show _ ≤ 10 * (acc + 1) by omega)) ?_
      rw [← Nat.mul_assoc]
      exact hb
    have ha : acc * 10 + (c.toNat - 48) + 1 ≤ 10 ^ 9 := Nat.le_trans (Nat.le_mul_of_pos_left _ hp) h2
    rw [parseUintM, if_pos hc, if_neg (by omega), if_neg (by omega), parse_digs r _ hr h2]
    have e : dv (c :: r) = 10 ^ r.length * (c.toNat - 48) + dv r := by
      rw [show c :: r = [c] ++ r from rfl, dv_append]
      simp [dv]
    rw [e, List.length_cons, Nat.pow_succ]
    congr 1
    rw [Nat.mul_add, Nat.mul_comm acc 10, ← Nat.mul_assoc]
    omega
theorem parse_chunk {l : List UInt8} (hd : allDig l) (h0 : l ≠ []) (h9 : l.length ≤ 9) : parseUintB 64 l = .ok (dv l) := by
  rw [parseUintB, if_neg h0]
  have h := parse_digs l 0 hd (by simpa using Nat.pow_le_pow_right (by omega) h9)
  simpa using h
theorem list_size (s : ByteArray) : s.data.toList.length = s.size := Array.length_toList
theorem par_call (s : ByteArray) (hmax : s.size ≤ 9223372036854775806) (u : Nat) (h : Lib.parseUintB 64 s.data.toList = .ok u) (w : World) :
    Calls Tryz.prog 136 #[.string s, .int .i64 10, .int .i64 64] w fun e w' => e = .returned (.tuple #[.int .u64 u, .nilIface]) ∧ Below w.heap.size w w' := by
  refine (Tryz.strconv_ParseUint s hmax u h w).mono ?_
  rintro e w' ⟨rfl, rfl | rfl⟩
  · exact ⟨rfl, Below.refl _ _⟩
  · exact ⟨rfl, Lib.bytesWorld_below _ _ _⟩
set_option maxRecDepth 100000 in
set_option maxHeartbeats 400000 in
theorem l_Parse (w : World) (s : ByteArray) (hd : allDig s.data.toList) (hs : s.size ≤ 1000000) :
    Calls Tryz.prog 98 #[.string s] w fun e w' => RetN .u64 (dv s.data.toList) e w' ∧ Below w.heap.size w w' := by
  obtain ⟨i0, hi, hz0, hz1, hz2⟩ := info_parts info_u64
  have HD := hid hd
  clear hd
  go_enter Tryz.func98, Tryz.ntmps98
  go_wp2_with fail
  go_loopw [3, 4, 5, 6] (fun o q x5 x6 wr => ∃ (l : List Nat) (t : Int), q = .int .i64 t ∧ t ≤ s.size ∧ -9 ≤ t ∧ l.length ≤ s.size - t.toNat ∧ Hid (ReadI s.data.toList t.toNat l) ∧ Hid (wr.ownsRow w.heap.size 124 1 o l.length (ints .u64 l)) ∧ Hid (Below w.heap.size w wr)) (fun _ q _ _ _ => (RowKit.intOf q).toNat)
  case atStart => exact ⟨[], _, rfl, by omega, by omega, by simp, ReadI.start _, World.ownsRow_nil _ _ _ _, Below.refl _ _⟩
  case round =>
    obtain ⟨l, t, rfl, hts, ht9, hl, hR, hO, hB⟩ := hrel
    by_cases h0 : t ≤ 0
    · have q0 : decide ((0 : Int) < t) = false := by simp; omega
      have e0 : t.toNat = 0 := by omega
      have hR2 := hR.out
      rw [e0] at hR2
      obtain ⟨ao, co, rfl⟩ := owns_ex hO.out
      have hrow : Row wr (.slice ao l.length co) (ints .u64 l) := Row.of_owns hO.out
      have hdone := hR2.done
      have hsm := hR2.sm
      clear hR2
      go_wp2_with (first
        | (go_at_call 137; refine (l_trim wr _ l hsm hrow).mono ?_; rintro e w' ⟨⟨v', rfl, hv'⟩, rfl⟩)
        | fail)
      go_ret
      refine ⟨⟨_, rfl, ?_⟩, hB.out⟩
      rw [← hdone]
      exact hv'
    · obtain ⟨e, he⟩ : ∃ e : Nat, t = e := ⟨t.toNat, by omega⟩
      subst he
      rw [Int.toNat_natCast] at hl hR
      have q0 : decide ((0 : Int) < (e : Int)) = true := by simp; omega
      obtain ⟨a, ha⟩ : ∃ a : Nat, a = e - 9 := ⟨_, rfl⟩
      have q1 : IntKind.i64.wrap ((e : Int) - 9) = (e : Int) - 9 := IntWalk.i64_in _ ⟨by omega, by omega⟩
      have q2 : max (0 : Int) ((e : Int) - 9) = (a : Int) := by omega
      have hle : ((s.extract a e).data.toList).length = e - a := by
        rw [extract_list, List.length_take, List.length_drop]
        have := list_size s
        omega
      have hchunk := parse_chunk (l := (s.extract a e).data.toList) (by rw [extract_list]; exact (HD.out.drop a).take _) (fun e0 => by rw [e0] at hle; simp at hle; omega) (by omega)
      have hlt : dv (s.extract a e).data.toList < 1000000000 := by rw [extract_list]; exact chunk_lt HD.out (by omega)
      have hsz : (s.extract a e).size ≤ 9223372036854775806 := by
        have := list_size (s.extract a e)
        omega
      obtain ⟨z, hz⟩ : ∃ z, dv (s.extract a e).data.toList = z := ⟨_, rfl⟩
      rw [hz] at hchunk hlt
      have hnext := hR.out.next HD.out
      rw [← ha, ← extract_list, hz] at hnext
      have HN := hid hnext; have HC := hid hchunk; have HS := hid hsz; have HA := hid ha; have HZ := hid hz
      clear hnext hchunk hsz ha hz hle hR
      obtain ⟨ao, co, rfl⟩ := owns_ex hO.out
      go_wp2_with (first
        | (go_at_call 136; refine (par_call _ HS.out z HC.out _).mono ?_; rintro e' W1 ⟨rfl, hb1⟩
           have HO1 := hid (owns_call hO.out hb1)
           have HB1 : Hid (Below w.heap.size w W1) := bnext hB.out (hb1.mono (Nat.le_refl _))
           clear hb1)
        | (at_builtin; refine wpList_append_own _ rfl _ _ 120 rfl w.heap.size 124 i0 (.int .u64 0) 1 8 Tryz.underlying120 hi hz0 hz1 hz2 rfl (by decide) _ l.length _ rfl (HO1.out.alloc _) ⟨W1.heap.size, 0, none⟩ 1 1 [.int .u64 (z : Int)] rfl rfl (cell_one_new W1 (.int .u64 (z : Int)) 124) (by simp [Value.oneCell']) (by unfold maxLen; omega) (by omega) (by have := HB1.out.size; simp; omega) ?_; intro v' w3 hown3 hgrow3 _; have HO3 := hid hown3; have HG3 := hid hgrow3; clear hown3 hgrow3)
        | fail)
      obtain ⟨n1, n2⟩ := own_next (z := z) HO1.out HB1.out HO3.out HG3.out
      have et : ((e : Int) - 9).toNat = a := by have := HA.out; omega
      go_roundw
      case rel => exact ⟨l ++ [z], _, rfl, by omega, by omega, by rw [et]; simp only [List.length_append, List.length_singleton]; have := HA.out; omega, by rw [et]; exact HN, n1, n2⟩
      case measure => simp [RowKit.intOf]; omega
end Go.Proofs.YtpehhgkghgbhiaaGreatDoor
namespace Go.Proofs.YtpehhgkghgbhiaaGreatDoor
open Go.RowKit Go.Shelf
theorem bN_limbs {s : ByteArray} (h : allDig s.data.toList) (hs : ¬ 4000 < s.size) : (limbs (bN s)).length ≤ 1000000 := by
  refine dv_limbs h ?_
  have : s.data.toList.length = s.size := Array.length_toList
  omega
theorem qD_false {s : ByteArray} (h : cS s = false) : qD s = ⟨#[49]⟩ := by simp [qD, h]
theorem qD_true {s : ByteArray} (h : cS s = true) : qD s = cB s := by simp [qD, h]
end Go.Proofs.YtpehhgkghgbhiaaGreatDoor
namespace Go.Proofs.YtpehhgkghgbhiaaGreatDoor
open Go.RowKit Go.Shelf
open Go.Lib (decDigits nDigits)
set_option linter.unusedVariables false
/-- The first byte of a valid text tells whether it is negative. -/
theorem qE_head {s W : ByteArray} (h : qE s = 0) (hW : cW s = W) : ∃ h0 : 0 < W.size, ((W[0].toNat : Int) == 45) = iM W := by
  subst hW
  have h1 := (qE_zero h).1
  have h2 := fB_dig (iB_form (qB_whole h1))
  have h3 := (formB_iff.1 (iB_form (qB_whole h1))).1
  obtain ⟨l, hl⟩ : ∃ l, (cW s).data.toList = l := ⟨_, rfl⟩
  have e : cW s = ⟨⟨l⟩⟩ := by
    apply ByteArray.ext
    rw [← hl]
  rw [e] at h2 h3 ⊢
  cases l with
  | nil => exact absurd rfl h3
  | cons b r =>
    refine ⟨Nat.succ_pos _, ?_⟩
    have e2 : (ByteArray.mk ⟨b :: r⟩)[0]'(Nat.succ_pos _) = b := rfl
    have e3 : iM ⟨⟨b :: r⟩⟩ = ((45 : UInt8) == b) := by
      simp [iM, Lib.hasPrefix, List.isPrefixOf]
    rw [e3]
    show ((((ByteArray.mk ⟨b :: r⟩)[0]'(Nat.succ_pos _)).toNat : Int) == 45) = _
    rw [e2, Bool.eq_iff_iff, beq_iff_eq, beq_iff_eq]
    constructor
    · intro h
      apply UInt8.toNat_inj.1
      simp
      omega
    · intro h
      rw [← h]
      rfl
end Go.Proofs.YtpehhgkghgbhiaaGreatDoor
namespace Go.Proofs.YtpehhgkghgbhiaaGreatDoor
open Go.RowKit Go.Shelf
set_option linter.unusedVariables false
theorem ne_lit {d : ByteArray} {l : List UInt8} (h : ¬ d = ⟨l.toArray⟩) : (d.toList == l) = false := by
  rw [beq_eq_false_iff_ne]
  intro e
  apply h
  have e2 : d.data.toList = l := by rw [← e]; exact (Lib.toList_data d).symm
  apply ByteArray.ext
  rw [← e2]
theorem l_form (w : World) (s : ByteArray) (hs : s.size ≤ 100000000) :
    Calls Tryz.prog 135 #[.string s] w fun e w' => e = .returned (.bool (fB s)) ∧ Below w.heap.size w w' := l_Form w s hs
theorem l_cutp (w : World) (s : ByteArray) :
    Calls Tryz.prog 143 #[.string s, .string ⟨#[45]⟩] w fun e w' => e = .returned (.tuple #[.string (iD s), .bool (iM s)]) ∧ w' = w := Tryz.strings_CutPrefix s ⟨#[45]⟩ w
set_option maxRecDepth 100000 in
set_option maxHeartbeats 1000000 in
theorem f_Integer (w : World) (s : ByteArray) (hs : s.size ≤ 100000000) :
    Calls Tryz.prog 101 #[.string s] w fun e w' => e = .returned (.tuple #[.bool (iM s), .string (iD s), .bool (iB s)]) ∧ Below w.heap.size w w' := by
  have HI := hid (show iB s = (fB (iD s) && !(iM s && decide (iD s = ⟨#[48]⟩))) from rfl)
  have hsz := iD_size s
  obtain ⟨m, hm⟩ : ∃ m, iM s = m := ⟨_, rfl⟩
  obtain ⟨d, hd⟩ : ∃ d, iD s = d := ⟨_, rfl⟩
  obtain ⟨f, hf⟩ : ∃ f, fB d = f := ⟨_, rfl⟩
  rw [hm, hd, hf] at HI
  rw [HI.out, hm, hd]
  rw [hd] at hsz
  have HC := hid (l_cutp w s)
  rw [hm, hd] at HC
  have HF := fun W => hid (l_form W d (by omega))
  rw [hf] at HF
  clear HI hm hd hf
  have run : ∀ r : Bool, (f && !(m && decide (d = ⟨#[48]⟩))) = r → Calls Tryz.prog 101 #[.string s] w fun e w' => e = .returned (.tuple #[.bool m, .string d, .bool r]) ∧ Below w.heap.size w w' := by
    intro r hr
    rcases Decidable.em (d = ⟨#[48]⟩) with rfl | h0
    · simp only [decide_true, Bool.and_true] at hr
      subst hr
      cases f <;> cases m
      all_goals
        go_enter Tryz.func101, Tryz.ntmps101
        go_wp2_with (first
          | (go_at_call 143; refine HC.out.mono ?_; rintro e w' ⟨rfl, rfl⟩)
          | (go_at_call 135; refine (HF _).out.mono ?_; rintro e w' ⟨rfl, hbw⟩)
          | fail)
        go_ret3
        exact ⟨rfl, hbw⟩
    have h48 := ne_lit (l := [48]) h0
    simp only [h0, decide_false, Bool.and_false, Bool.not_false, Bool.and_true] at hr
    subst hr
    cases f <;> cases m
    all_goals
      go_enter Tryz.func101, Tryz.ntmps101
      go_wp2_with (first
        | (go_at_call 143; refine HC.out.mono ?_; rintro e w' ⟨rfl, rfl⟩)
        | (go_at_call 135; refine (HF _).out.mono ?_; rintro e w' ⟨rfl, hbw⟩)
        | fail)
      go_ret3
      exact ⟨rfl, hbw⟩
  exact run _ rfl
set_option maxRecDepth 100000 in
set_option maxHeartbeats 1000000 in
theorem n_Check (w : World) (s : ByteArray) (hs : s.size ≤ 100000000) :
    Calls Tryz.prog 97 #[.string s] w fun e w' => e = .returned (.int .i64 (errN s.data.toList)) ∧ Below w.heap.size w w' := by
  have hsz : s.data.toList.length = s.size := Array.length_toList
  by_cases hf : formB s.data.toList = true
  · by_cases hl : 4000 < s.size
    · rw [errN_long (formB_iff.1 hf) (by omega)]
      have q0 : decide ((4000 : Int) < (s.size : Int)) = true := by simp; omega
      have HF := fun W => hid (l_form W s hs)
      rw [show fB s = true from hf] at HF
      clear hf hl hsz
      go_enter Tryz.func97, Tryz.ntmps97
      go_wp2_with (first
        | (go_at_call 135; refine (HF _).out.mono ?_; rintro e w' ⟨rfl, hbw⟩)
        | fail)
      go_ret
      exact ⟨rfl, hbw⟩
    · rw [errN_ok (formB_iff.1 hf) (by omega)]
      have q0 : decide ((4000 : Int) < (s.size : Int)) = false := by simp; omega
      have HF := fun W => hid (l_form W s hs)
      rw [show fB s = true from hf] at HF
      clear hf hl hsz
      go_enter Tryz.func97, Tryz.ntmps97
      go_wp2_with (first
        | (go_at_call 135; refine (HF _).out.mono ?_; rintro e w' ⟨rfl, hbw⟩)
        | fail)
      go_ret
      exact ⟨rfl, hbw⟩
  · rw [errN_bad (fun h => hf (formB_iff.2 h))]
    have HF := fun W => hid (l_form W s hs)
    rw [show fB s = false from by unfold fB; simpa using hf] at HF
    clear hf hsz
    go_enter Tryz.func97, Tryz.ntmps97
    go_wp2_with (first
      | (go_at_call 135; refine (HF _).out.mono ?_; rintro e w' ⟨rfl, hbw⟩)
      | fail)
    go_ret
    exact ⟨rfl, hbw⟩
end Go.Proofs.YtpehhgkghgbhiaaGreatDoor
namespace Go.Proofs
open Go.Shelf
def Tryz.lays145_ren : Go.Shelf.Ren := ⟨fun | 145 => 149 | 220 => 181 | 219 => 216 | 217 => 239 | 225 => 240 | 224 => 241 | 267 => 242 | 266 => 254 | 314 => 255 | n => n, fun | 9 => 9 | 4 => 4 | 59 => 173 | 3 => 3 | 5 => 5 | 46 => 155 | 146 => 265 | 51 => 234 | n => n, fun | 1 => 3 | n => n⟩
theorem Tryz.lays145 : Go.Proofs.Lays.n145 Tryz.prog Tryz.lays145_ren := {
  mixed := by kernel_rfl
  f145 := Tryz.func149.trans (congrArg some (by kernel_rfl))
  f217 := Tryz.func239.trans (congrArg some (by kernel_rfl))
  f219 := Tryz.func216.trans (congrArg some (by kernel_rfl))
  f220 := Tryz.func181.trans (congrArg some (by kernel_rfl))
  f224 := Tryz.func241.trans (congrArg some (by kernel_rfl))
  f225 := Tryz.func240.trans (congrArg some (by kernel_rfl))
  f266 := Tryz.func254.trans (congrArg some (by kernel_rfl))
  f267 := Tryz.func242.trans (congrArg some (by kernel_rfl))
  f314 := Tryz.func255.trans (congrArg some (by kernel_rfl))
  t3 := Tryz.underlying3
  a3 := Tryz.isAgg3
  z3 := Tryz.sizeOf3
  v3 := Tryz.zeroValue3
  t4 := Tryz.underlying4
  a4 := Tryz.isAgg4
  z4 := Tryz.sizeOf4
  v4 := Tryz.zeroValue4
  t5 := Tryz.underlying5
  a5 := Tryz.isAgg5
  z5 := Tryz.sizeOf5
  v5 := Tryz.zeroValue5
  t9 := Tryz.underlying9
  a9 := Tryz.isAgg9
  z9 := Tryz.sizeOf9
  v9 := Tryz.zeroValue9
  t46 := Tryz.underlying155
  a46 := Tryz.isAgg155
  z46 := Tryz.sizeOf155
  v46 := Tryz.zeroValue155
  t51 := Tryz.underlying234
  a51 := Tryz.isAgg234
  z51 := Tryz.sizeOf234
  v51 := Tryz.zeroValue234
  t59 := Tryz.underlying173
  a59 := Tryz.isAgg173
  z59 := Tryz.sizeOf173
  v59 := Tryz.zeroValue173
  t146 := Tryz.underlying265
  a146 := Tryz.isAgg265
  z146 := Tryz.sizeOf265
  v146 := Tryz.zeroValue265
  g1 := by kernel_rfl }
theorem Tryz.strings_Cut (s sep : ByteArray) (m : Int) (w : World) (hs : s.size < 4294967281) (hm : w.cell? ⟨3, 0, none⟩ = some (.int .i64 m)) :
    Calls Tryz.prog 149 #[.string s, .string sep] w fun e w' => e = .returned (.tuple #[.string ⟨(Lib.cut s.data.toList sep.data.toList).1.toArray⟩, .string ⟨(Lib.cut s.data.toList sep.data.toList).2.1.toArray⟩, .bool (Lib.cut s.data.toList sep.data.toList).2.2]) ∧ ∃ n, w' = w.drewN n := Any.strings_Cut Tryz.lays145 s sep m w hs hm
end Go.Proofs
namespace Go.Proofs.YtpehhgkghgbhiaaGreatDoor
open Go.RowKit Go.Shelf
set_option linter.unusedVariables false
theorem l_cut (w : World) (s : ByteArray) (hs : s.size ≤ 100000000) (hL : Lay w) :
    Calls Tryz.prog 149 #[.string s, .string ⟨#[47]⟩] w fun e w' => e = .returned (.tuple #[.string (cW s), .string (cB s), .bool (cS s)]) ∧ Below w.heap.size w w' := by
  obtain ⟨m, hm⟩ := hL.max
  refine (Tryz.strings_Cut s ⟨#[47]⟩ m w (by omega) hm).mono ?_
  rintro e w' ⟨rfl, n, rfl⟩
  exact ⟨rfl, below_drewN (Below.refl _ _) n⟩
end Go.Proofs.YtpehhgkghgbhiaaGreatDoor
namespace Go.Proofs.YtpehhgkghgbhiaaGreatDoor
open Go.RowKit
open Go.Lib (decDigits nDigits)
/-- An integer by its sign and its size. -/
def sgn (m : Bool) (n : Nat) : Int := if m = true then -(n : Int) else n
theorem sgn_natAbs (m : Bool) (n : Nat) : (sgn m n).natAbs = n := by cases m <;> simp [sgn]
theorem sgn_zero (m : Bool) : sgn m 0 = 0 := by cases m <;> simp [sgn]
theorem sgn_neg {m : Bool} {n : Nat} (h : 0 < n) : decide (sgn m n < 0) = m := by cases m <;> simp [sgn] <;> omega
theorem sgn_of (z : Int) : sgn (decide (z < 0)) z.natAbs = z := by
  unfold sgn
  by_cases h : z < 0 <;> simp [h] <;> omega
/-- The rational number of a sign, a numerator and a denominator. -/
def qmk (m : Bool) (n d : Nat) : Rat := mkRat (sgn m n) d
theorem sgn_div (m : Bool) {n g : Nat} (h : g ∣ n) : sgn m n / (g : Int) = sgn m (n / g) := by
  cases m
  · simp [sgn]
  · simp only [sgn, if_true]
    rw [Int.neg_ediv_of_dvd (Int.natCast_dvd_natCast.2 h)]
    simp
theorem qmk_num {m : Bool} {n d : Nat} (hd : 0 < d) : (qmk m n d).num = sgn m (n / Nat.gcd n d) := by
  unfold qmk
  rw [Rat.num_mkRat, if_neg (by omega), sgn_natAbs, Nat.gcd_comm, sgn_div m (Nat.gcd_dvd_left n d)]
theorem qmk_den {m : Bool} {n d : Nat} (hd : 0 < d) : (qmk m n d).den = d / Nat.gcd n d := by
  unfold qmk
  rw [Rat.den_mkRat, if_neg (by omega), sgn_natAbs, Nat.gcd_comm]
theorem qmk_zero (m : Bool) (d : Nat) : qmk m 0 d = 0 := by unfold qmk; rw [sgn_zero, Rat.zero_mkRat]
theorem qmk_self (q : Rat) : qmk (decide (q.num < 0)) q.num.natAbs q.den = q := by unfold qmk; rw [sgn_of, Rat.mkRat_self]
/-- The struct v holds the rational number q. -/
structure IsQ (k : IntKind) (w : World) (v : Value) (q : Rat) : Prop where
  ex : ∃ N D, v = .agg #[.bool (decide (q.num < 0)), N, D] ∧ IsN k w N q.num.natAbs ∧ IsN k w D q.den
theorem IsQ.call {k : IntKind} {w w' : World} {v : Value} {q : Rat} (h : IsQ k w v q) (hb : Below w.heap.size w w') : IsQ k w' v q := by
  obtain ⟨N, D, rfl, h1, h2⟩ := h.ex
  exact ⟨N, D, rfl, h1.call hb, h2.call hb⟩
theorem IsQ.mk' {k : IntKind} {w : World} {N D : Value} {m : Bool} {n d : Nat} (hn : 0 < n) (hd : 0 < d) (h1 : IsN k w N (n / Nat.gcd n d)) (h2 : IsN k w D (d / Nat.gcd n d)) : IsQ k w (.agg #[.bool m, N, D]) (qmk m n d) := by
  have hg : 0 < n / Nat.gcd n d := Nat.div_pos (Nat.gcd_le_left d hn) (Nat.gcd_pos_of_pos_left d hn)
  refine ⟨N, D, ?_, ?_, ?_⟩
  · rw [qmk_num hd, sgn_neg hg]
  · rw [qmk_num hd, sgn_natAbs]; exact h1
  · rw [qmk_den hd]; exact h2
theorem IsQ.zero_ {k : IntKind} {w : World} {N D : Value} (h1 : IsN k w N 0) (h2 : IsN k w D 1) : IsQ k w (.agg #[.bool false, N, D]) 0 := ⟨N, D, rfl, h1, h2⟩
/-- A call gives back a struct that holds q. -/
def RetQ (k : IntKind) (q : Rat) (e : Ending) (w' : World) : Prop := ∃ v, e = .returned v ∧ IsQ k w' v q
end Go.Proofs.YtpehhgkghgbhiaaGreatDoor
namespace Go.Proofs.YtpehhgkghgbhiaaGreatDoor
open Go.RowKit
open Go.Lib (decDigits nDigits)
set_option linter.unusedVariables false
/-- No cell of these is an integer. -/
def NoInt (cs : Array Value) : Prop := ∀ (i : Nat) (k : IntKind) (x : Int), cs[i]? ≠ some (.int k x)
theorem NoInt.three (m : Bool) (a b : Option Addr) (n c n' c' : Nat) : NoInt #[.bool m, .slice a n c, .slice b n' c'] := by
  intro i k x h
  rcases i with _ | _ | _ | i <;> simp at h
theorem IsN.setQ {k : IntKind} {w : World} {v : Value} {n b : Nat} {cs : Array Value} {t : TypeId} (h : IsN k w v n) (hb : Blk w b cs t) (hc : NoInt cs) (j : Nat) (u : Value) : IsN k (w.setCell ⟨b, j, none⟩ u) v n := by
  obtain ⟨a, c, rfl, h1, h2, h3⟩ := h.ex
  refine ⟨a, c, rfl, h1, h2, fun i x hx => ?_⟩
  obtain ⟨g, o, e, hg, hcell⟩ := h3 i x hx
  refine ⟨g, o, e, by simpa [World.setCell] using hg, ?_⟩
  have hne : g ≠ b := by
    rintro rfl
    rw [hb.cell] at hcell
    have : x ∈ ints k (limbs n) := List.mem_of_getElem? hx
    obtain ⟨y, _, rfl⟩ := List.mem_map.1 this
    exact hc _ _ _ hcell
  rw [← hcell]
  unfold World.cell?
  rw [Below.heap_setCell _ _ _ _ (by simpa using hne)]
theorem set3 {w : World} {b : Nat} {m0 : Bool} {a0 b0 : Option Addr} {n0 c0 n1 c1 : Nat} {t : TypeId} (hb : Blk w b #[.bool m0, .slice a0 n0 c0, .slice b0 n1 c1] t) (m : Bool) (a a' : Option Addr) (n c n' c' : Nat) :
    (∀ (k : IntKind) (v : Value) (x : Nat), IsN k w v x → IsN k (((w.setCell ⟨b, 0, none⟩ (.bool m)).setCell ⟨b, 1, none⟩ (.slice a n c)).setCell ⟨b, 2, none⟩ (.slice a' n' c')) v x) ∧
    Blk (((w.setCell ⟨b, 0, none⟩ (.bool m)).setCell ⟨b, 1, none⟩ (.slice a n c)).setCell ⟨b, 2, none⟩ (.slice a' n' c')) b #[.bool m, .slice a n c, .slice a' n' c'] t := by
  have h1 := hb.set 0 (.bool m)
  have h2 := h1.set 1 (.slice a n c)
  have h3 := h2.set 2 (.slice a' n' c')
  simp at h1 h2 h3
  refine ⟨fun k v x h => ?_, h3⟩
  exact ((h.setQ hb (NoInt.three _ _ _ _ _ _ _) 0 _).setQ h1 (NoInt.three _ _ _ _ _ _ _) 1 _).setQ h2 (NoInt.three _ _ _ _ _ _ _) 2 _
end Go.Proofs.YtpehhgkghgbhiaaGreatDoor
namespace Go.Proofs.YtpehhgkghgbhiaaGreatDoor
open Go.RowKit
set_option linter.unusedVariables false
/-- A call gives back a row of its own that holds n. -/
def RetOwn (k : IntKind) (t : TypeId) (B n : Nat) (e : Ending) (w' : World) : Prop := ∃ v, e = .returned v ∧ w'.ownsRow B t 1 v (limbs n).length (ints k (limbs n))
theorem RetOwn.retN {k : IntKind} {t : TypeId} {B n : Nat} {e : Ending} {w' : World} (h : RetOwn k t B n e w') : RetN k n e w' := by
  obtain ⟨v, he, ho⟩ := h
  exact ⟨v, he, Row.of_owns ho⟩
theorem Arr.owns {k : IntKind} {t : TypeId} {w : World} {g B m c : Nat} {l : List Nat} (h : Arr k t w g l) (hB : B ≤ g) (hm : m ≤ l.length) (hc : c = l.length) (hm2 : c ≤ maxLen) : w.ownsRow B t 1 (.slice (some ⟨g, 0, none⟩) m c) m (ints k (l.take m)) := by
  refine ⟨by rw [ints_length, List.length_take_of_le hm, Nat.mul_one], .inr ⟨g, c, _, rfl, hB, h, by omega, hm2, by simp [hc], ?_⟩⟩
  simp [ints_take]
set_option maxRecDepth 100000 in
set_option maxHeartbeats 4000000 in
theorem l_Mul_own (w : World) (v u : Value) (a b : Nat) (ha : IsN .u64 w v a) (hb : IsN .u64 w u b) (hla : (limbs a).length ≤ 1000000) (hlb : (limbs b).length ≤ 1000000) :
    Calls Tryz.prog 109 #[v, u] w fun e w' => RetOwn .u64 124 w.heap.size (a * b) e w' ∧ Below w.heap.size w w' := by
  obtain ⟨a1, c1, rfl, h1, h2, h3⟩ := ha.openI
  obtain ⟨a2, c2, rfl, k1, k2, k3⟩ := hb.openI
  have H3 := hid h3; have K3 := hid k3; clear h3 k3 ha hb
  obtain ⟨n, ea⟩ : ∃ n, (limbs a).length = n := ⟨_, rfl⟩
  obtain ⟨m, eb⟩ : ∃ m, (limbs b).length = m := ⟨_, rfl⟩
  rw [ea] at h1 hla ⊢
  rw [eb] at k1 hlb ⊢
  have HA := hid ea; have HB := hid eb
  clear ea eb
  have hmk : ∀ W : World, (Instr.makeSlice 120 (.int .i64 ((n : Int) + m)) (.int .i64 ((n : Int) + m))).run Tryz.prog W = .ok (.slice (some ⟨W.heap.size, 0, none⟩) (n + m) (n + m)) (W.alloc (.cells (madeCells #[.int .u64 0] (n + m)) 124)) := fun W => by
    have := make_nat (n + m) (by omega) W
    rwa [Int.natCast_add] at this
  go_enter Tryz.func109, Tryz.ntmps109
  go_wp2_with fail
  clear hmk
  go_loopw [6, 7, 8, 9, 10, 11, 20] (fun s6 s7 s8 s9 s10 s11 ii wr => ∃ (k : Nat) (o : List Nat), ii = .int .i64 k ∧ k ≤ n ∧ Hid (MulI a b k o) ∧ Hid (Arr .u64 124 wr w.heap.size o) ∧ Hid (Below w.heap.size w wr)) (fun _ _ _ _ _ _ ii _ => n - (intOf ii).toNat)
  case atStart => exact ⟨0, _, rfl, Nat.zero_le _, MulI.start a b, by rw [HA.out, HB.out]; exact Arr.made w .u64 124 (n + m), (Below.refl _ _).alloc (Nat.le_refl _) _⟩
  case round =>
    obtain ⟨i, o, rfl, hin, hM, hO, hB⟩ := hrel
    by_cases hlt : i < n
    · obtain ⟨x, hx⟩ : ∃ x, (limbs a)[i]? = some x := ⟨_, List.getElem?_eq_getElem (by rw [HA.out]; exact hlt)⟩
      obtain ⟨g, og, rfl, hg, hc⟩ := H3.out _ x hx
      have d0 := (hB.out.cell (p := ⟨g, og + i, none⟩) hg).trans hc
      have HX := hid hx; clear hx hc
      have hsize := hid (show o.length = n + m from by rw [hM.out.len, HA.out, HB.out])
      go_wp2_with fail
      clear d0
      obtain ⟨wo, rfl⟩ : ∃ wo : World, wo = wr := ⟨_, rfl⟩
      go_loopw [8, 9, 10, 11, 27] (fun cc s9 s10 s11 kk wq => ∃ (c k : Nat) (o : List Nat), cc = .int .u64 c ∧ kk = .int .i64 k ∧ k ≤ m ∧ Hid (MulJ a b i x k c o) ∧ Hid (Arr .u64 124 wq w.heap.size o) ∧ Hid (Below w.heap.size w wq)) (fun _ _ _ _ kk _ => m - (intOf kk).toNat)
      case atStart => exact ⟨0, 0, o, rfl, rfl, Nat.zero_le _, hM.out.enter, hO, hB⟩
      case round =>
        obtain ⟨c, k, o, rfl, rfl, hkm, hJ, hO, hB⟩ := hrel
        have hsz : Hid (o.length = n + m) := by rw [Hid, hJ.out.len, HA.out, HB.out]
        by_cases hkl : k < m
        · obtain ⟨y, hy⟩ : ∃ y, (limbs b)[k]? = some y := ⟨_, List.getElem?_eq_getElem (by rw [HB.out]; exact hkl)⟩
          obtain ⟨g', og', rfl, hg', hd⟩ := K3.out _ y hy
          obtain ⟨old, ho⟩ : ∃ old, o[i + k]? = some old := ⟨_, List.getElem?_eq_getElem (by rw [hsz.out]; omega)⟩
          have d2 := (hB.out.cell (p := ⟨g', og' + k, none⟩) hg').trans hd
          have d3 := hO.out.cell ho
          have d4 := hO.out.free (i + k)
          have hb1 := mul_bound (hJ.out.sm.get ho) ((sm_limbs a).get HX.out) ((sm_limbs b).get hy) hJ.out.c1
          have HN := hid (hJ.out.next HX.out hy ho)
          have hol := hJ.out.sm.get ho
          have hcl := hJ.out.c1
          have HP := hid (show ((x : Int) * (y : Int)) = ((x * y : Nat) : Int) from (Int.natCast_mul x y).symm)
          obtain ⟨p, hp⟩ : ∃ p, x * y = p := ⟨_, rfl⟩
          rw [hp] at hb1 HN HP
          have hp2 := hb1.2; have hb1 := hb1.1
          clear hd hy ho hp
          have e5 : IntKind.u64.wrap ((x : Int) * (y : Int)) = (p : Int) := by rw [HP.out]; exact IntWalk.u64_in _ (by omega)
          go_wp2_with fail
          clear e5
          go_roundw
          case rel =>
            have hz : (((old : Int) + p + c) % 1000000000) = (((old + p + c) % 1000000000 : Nat) : Int) := by omega
            rw [hz]
            exact ⟨(old + p + c) / 1000000000, k + 1, _, by go_num, by go_num, by omega, HN, hO.out.set (i + k) _, below_set hB.out (Nat.le_refl _) _⟩
          case measure => simp [intOf] <;> omega
        · obtain rfl : k = m := by omega
          have HJ := hid (show MulI a b (i + 1) (o.set (i + k) c) from by have := hJ.out; rw [← HB.out] at this ⊢; exact this.leave HX.out)
          obtain ⟨z, hz⟩ : ∃ z, o[i + k]? = some z := ⟨_, List.getElem?_eq_getElem (by rw [hsz.out]; omega)⟩
          have d3 := hO.out.cell hz
          have d4 := hO.out.free (i + k)
          clear hz
          go_wp2_with fail
          go_roundw
          case rel => exact ⟨i + 1, _, by go_num, by omega, HJ, hO.out.set (i + k) c, below_set hB.out (Nat.le_refl _) _⟩
          case measure => simp [intOf] <;> omega
    · obtain rfl : i = n := by omega
      have hv := hid (show val o = a * b from MulI.done (by have := hM.out; rw [← HA.out] at this; exact this))
      have hl := hid (show o.length = i + m from by rw [hM.out.len, HA.out, HB.out])
      have hr := hid (show Row wr (.slice (some ⟨w.heap.size, 0, none⟩) (i + m) (i + m)) (ints .u64 o) from by
        have := hO.out.row (n := i + m) (c := i + m) (by rw [hl.out]; exact Nat.le_refl _) (Nat.le_refl _) (by unfold maxLen; omega)
        rwa [List.take_of_length_le (by rw [hl.out]; exact Nat.le_refl _)] at this)
      have ht := hid (take_limbs hM.out.sm)
      rw [hv.out] at ht
      go_wp2_with (go_at_call 137; have htr := l_trim_to wr (some ⟨w.heap.size, 0, none⟩) (i + m) o hM.out.sm (by rw [hl.out]; exact hr.out); rw [hl.out, hv.out] at htr; refine htr.mono ?_; clear htr; rintro e w1 ⟨rfl, rfl⟩)
      go_ret
      refine ⟨⟨_, rfl, ?_⟩, hB.out⟩
      have := Arr.owns (B := w.heap.size) (m := (limbs (a * b)).length) (c := i + m) hO.out (Nat.le_refl _) ht.out.1 hl.out.symm (by unfold maxLen; omega)
      rwa [ht.out.2] at this
theorem l_Mul (w : World) (v u : Value) (a b : Nat) (ha : IsN .u64 w v a) (hb : IsN .u64 w u b) (hla : (limbs a).length ≤ 1000000) (hlb : (limbs b).length ≤ 1000000) :
    Calls Tryz.prog 109 #[v, u] w fun e w' => RetN .u64 (a * b) e w' ∧ Below w.heap.size w w' :=
  (l_Mul_own w v u a b ha hb hla hlb).mono fun e w' h => ⟨h.1.retN, h.2⟩
end Go.Proofs.YtpehhgkghgbhiaaGreatDoor
namespace Go.Proofs.YtpehhgkghgbhiaaGreatDoor
/-- The estimate is not too large by two. u: the three highest limbs of U; v: the two highest of V. -/
theorem est_upper {g U V U' V' u v P : Nat} (hU : U = u * P + U') (hV : V = v * P + V') (hV' : V' < P) (hg : g * v ≤ u) (hgv : g ≤ v) (hv : 0 < v) : g * V < U + V := by
  have hP : 0 < P := by omega
  have h2 : g * V = g * v * P + g * V' := by rw [hV, Nat.mul_add, Nat.mul_assoc]
  have h3 : g * v * P ≤ u * P := Nat.mul_le_mul_right _ hg
  rcases Nat.eq_zero_or_pos g with rfl | hg0
  · have : 0 < v * P := Nat.mul_pos hv hP
    omega
  · have h5 : g * V' < g * P := Nat.mul_lt_mul_of_pos_left hV' hg0
    have h6 : g * P ≤ v * P := Nat.mul_le_mul_right _ hgv
    omega
/-- The first estimate is not too small. -/
theorem est_first {q top v1 U V P : Nat} (hU : U < (top + 1) * P) (hV : v1 * P ≤ V) (hq : q * V ≤ U) (h1 : 0 < v1) : q ≤ top / v1 := by
  rw [Nat.le_div_iff_mul_le h1]
  refine Nat.le_of_lt_succ (Nat.lt_of_mul_lt_mul_right (a := P) ?_)
  have : q * v1 * P ≤ q * V := by rw [Nat.mul_assoc]; exact Nat.mul_le_mul_left _ hV
  show q * v1 * P < (top + 1) * P
  omega
/-- An estimate that is seen to be too large: one less is not too small. -/
theorem est_less {q g u v U V U' P : Nat} (hU : U = u * P + U') (hU' : U' < P) (hV : v * P ≤ V) (hq : q * V ≤ U) (hg : u < g * v) : q ≤ g - 1 := by
  refine Nat.le_sub_one_of_lt (Nat.lt_of_not_le fun h => ?_)
  have h1 : g * V ≤ q * V := Nat.mul_le_mul_right _ h
  have h2 : g * v * P ≤ g * V := by rw [Nat.mul_assoc]; exact Nat.mul_le_mul_left _ hV
  have h3 : (u + 1) * P ≤ g * v * P := Nat.mul_le_mul_right _ hg
  rw [Nat.add_mul] at h3
  omega
/-- The test by the three highest limbs. -/
theorem est_test {g r top v1 v2 u2 : Nat} (htop : top = g * v1 + r) : g * (v1 * 1000000000 + v2) ≤ top * 1000000000 + u2 ↔ g * v2 ≤ r * 1000000000 + u2 := by
  subst htop
  rw [Nat.mul_add, Nat.add_mul, Nat.mul_assoc]
  generalize g * (v1 * 1000000000) = x
  omega
theorem est_done {g r top v1 v2 u0 u1 u2 : Nat} (htop : top = g * v1 + r) (ht : top = u0 * 1000000000 + u1) (hu1 : u1 < 1000000000) (hv2 : v2 < 1000000000) (hle : u0 ≤ v1) (hr : 1000000000 ≤ r) :
    g < 1000000000 ∧ g * v2 ≤ r * 1000000000 + u2 := by
  have hg : g < 1000000000 := Nat.lt_of_not_le fun h => by
    have h1 : 1000000000 * v1 ≤ g * v1 := Nat.mul_le_mul_right _ h
    have h2 : u0 * 1000000000 ≤ v1 * 1000000000 := Nat.mul_le_mul_right _ hle
    omega
  have h3 : g * v2 ≤ 1000000000 * 1000000000 := Nat.mul_le_mul (by omega) (by omega)
  exact ⟨hg, by omega⟩
theorem est_bound {g top v1 u0 u1 : Nat} (h1 : 0 < v1) (ht : top = u0 * 1000000000 + u1) (hu1 : u1 < 1000000000) (hle : u0 ≤ v1) (hg : g ≤ top / v1) : g ≤ 2000000000 := by
  refine Nat.le_trans hg ?_
  refine Nat.div_le_of_le_mul ?_
  have : u0 * 1000000000 ≤ v1 * 1000000000 := Nat.mul_le_mul_right _ hle
  omega
/-- The quotient out of the estimate. -/
theorem est_exact {g U V : Nat} (hq : U / V ≤ g) (hle : g * V ≤ U) (hV : 0 < V) : g = U / V :=
  Nat.le_antisymm ((Nat.le_div_iff_mul_le hV).2 hle) hq
theorem est_one {g U V : Nat} (hV : 0 < V) (hu : g * V < U + V) (hgt : U < g * V) (hq : U / V ≤ g) : U / V = g - 1 ∧ 0 < g := by
  have hg : 0 < g := Nat.pos_of_ne_zero fun e => by subst e; omega
  refine ⟨?_, hg⟩
  obtain ⟨k, rfl⟩ : ∃ k, g = k + 1 := ⟨g - 1, by omega⟩
  rw [Nat.add_mul] at hu hgt
  refine Nat.le_antisymm ?_ ?_
  · refine Nat.le_of_lt_succ ((Nat.div_lt_iff_lt_mul hV).2 ?_)
    rw [Nat.add_sub_cancel, Nat.succ_mul]
    omega
  · rw [Nat.le_div_iff_mul_le hV, Nat.add_sub_cancel]
    omega
/-- The last limb: nothing is lacking: the estimate was exact. -/
theorem msub_fits {g U V W T c un p : Nat} (h : W + g * V = T + p * c) (hU : U = T + p * un) (hc : c ≤ un) (hq : U / V ≤ g) (hV : 0 < V) (hVp : V ≤ p) :
    g = U / V ∧ W = U % V ∧ un = c := by
  have h1 : p * c ≤ p * un := Nat.mul_le_mul_left _ hc
  have hle : g * V ≤ U := by omega
  have hg := est_exact hq hle hV
  have hm := Nat.div_add_mod U V
  have hlt := Nat.mod_lt U hV
  rw [← hg, Nat.mul_comm] at hm
  have h2 : W + p * un = U % V + p * c := by omega
  have h3 : un = c := by
    rcases Nat.lt_or_ge c un with hlt' | hge
    · have : p * (c + 1) ≤ p * un := Nat.mul_le_mul_left _ hlt'
      rw [Nat.mul_add] at this
      omega
    · omega
  subst h3
  exact ⟨hg, by omega, rfl⟩
/-- Something is lacking: the estimate was one too large; V is added again. -/
theorem msub_lacks {g U V W T c un p W' k : Nat} (h : W + g * V = T + p * c) (hU : U = T + p * un) (hc : un < c) (hq : U / V ≤ g) (hu : g * V < U + V) (hV : 0 < V) (hVp : V ≤ p) (hW : W < p)
    (hadd : W' + p * k = W + V) (hW' : W' < p) : U / V = g - 1 ∧ 0 < g ∧ W' = U % V := by
  have h1 : p * (un + 1) ≤ p * c := Nat.mul_le_mul_left _ hc
  rw [Nat.mul_add] at h1
  have hgt : U < g * V := by omega
  obtain ⟨hq1, hg⟩ := est_one hV hu hgt hq
  refine ⟨hq1, hg, ?_⟩
  have hm := Nat.div_add_mod U V
  have hlt := Nat.mod_lt U hV
  rw [hq1] at hm
  obtain ⟨t, rfl⟩ : ∃ t, g = t + 1 := ⟨g - 1, by omega⟩
  rw [Nat.add_sub_cancel, Nat.mul_comm] at hm
  rw [Nat.add_mul] at h
  obtain ⟨d, rfl⟩ : ∃ d, c = un + d := ⟨c - un, by omega⟩
  rw [Nat.mul_add] at h
  -- W + V = U % V + p * d
  have h2 : W + V = U % V + p * d := by omega
  have h3 : W' + p * k = U % V + p * d := by omega
  have hp : 0 < p := by omega
  have h4 : (W' + p * k) % p = (U % V + p * d) % p := by rw [h3]
  rw [Nat.add_mul_mod_self_left, Nat.add_mul_mod_self_left, Nat.mod_eq_of_lt hW', Nat.mod_eq_of_lt (by omega)] at h4
  exact h4
/-- What a round of the long quotient does. u: the array, its window at j turned into w'. -/
theorem div_round {U V n j : Nat} {u w' Q : List Nat} (hj : j + n + 1 ≤ u.length) (hz : ∀ i, j + 1 + n ≤ i → u.getD i 0 = 0)
    (h : U = V * (1000000000 ^ (j + 1) * val Q) + val u) (hlt : val (u.drop (j + 1)) < V) (hu : Sm u) (hw : w'.length = n + 1) (hv : val w' = val ((u.drop j).take (n + 1)) % V) :
    val ((u.drop j).take (n + 1)) < 1000000000 * V ∧ U = V * (1000000000 ^ j * val (val ((u.drop j).take (n + 1)) / V :: Q)) + val (u.take j ++ w' ++ u.drop (j + n + 1)) ∧
    val ((u.take j ++ w' ++ u.drop (j + n + 1)).drop j) < V ∧ ∀ i, j + 1 + n ≤ i → (u.take j ++ w' ++ u.drop (j + n + 1)).getD i 0 = 0 := by
  have hV : 0 < V := by omega
  have hrest : u.drop (j + n + 1) = List.replicate (u.length - (j + n + 1)) 0 := by
    rw [List.eq_replicate_iff]
    refine ⟨by simp, fun x hx => ?_⟩
    obtain ⟨k, hk⟩ := List.getElem?_of_mem hx
    rw [List.getElem?_drop] at hk
    have := hz (j + n + 1 + k) (by omega)
    rw [List.getD_eq_getElem?_getD, hk] at this
    exact this
  have hW : val ((u.drop j).take (n + 1)) = val (u.drop j) := by
    have h1 := val_split (u.drop j) (n + 1) (by simp; omega)
    rw [List.drop_drop, show j + (n + 1) = j + n + 1 by omega, hrest, val_zeros] at h1
    omega
  have hd : val (u.drop j) = u.getD j 0 + 1000000000 * val (u.drop (j + 1)) := by
    rw [List.getD_eq_getElem?_getD]
    have hjl : j < u.length := by omega
    rw [List.getElem?_eq_getElem hjl, val_drop (List.getElem?_eq_getElem hjl)]
    rfl
  have hx := hu.getD j
  have hs := val_split u j (by omega)
  have htl : (u.take j).length = j := List.length_take_of_le (by omega)
  have hlen : (u.take j ++ w').length = j + n + 1 := by rw [List.length_append, htl, hw]; omega
  have hnew : val (u.take j ++ w' ++ u.drop (j + n + 1)) = val (u.take j) + 1000000000 ^ j * val w' := by
    rw [hrest, val_append, val_zeros, val_append, htl]
    omega
  refine ⟨by rw [hW, hd]; omega, ?_, ?_, ?_⟩
  · rw [hnew, hv, h, hs, ← hW, val_cons]
    generalize val ((u.drop j).take (n + 1)) = W
    have hm := Nat.div_add_mod W V
    have hm2 := congrArg (1000000000 ^ j * ·) hm
    simp only [Nat.mul_add] at hm2
    rw [Nat.pow_succ, Nat.mul_add, Nat.mul_add, Nat.mul_left_comm V (1000000000 ^ j) (W / V)]
    have e : V * (1000000000 ^ j * 1000000000 * val Q) = V * (1000000000 ^ j * (1000000000 * val Q)) := by rw [Nat.mul_assoc (1000000000 ^ j)]
    omega
  · rw [List.append_assoc, List.drop_left' htl, hrest, val_append, val_zeros, hv]
    have := Nat.mod_lt (val ((u.drop j).take (n + 1))) hV
    omega
  · intro i hi
    rw [List.getD_eq_getElem?_getD, List.getElem?_append_right (by omega), hlen, List.getElem?_drop]
    have := hz (j + n + 1 + (i - (j + n + 1))) (by omega)
    rw [List.getD_eq_getElem?_getD] at this
    exact this
/-- The quotient and the remainder, the scale taken out. -/
theorem div_end {a b s Q R : Nat} (hs : 0 < s) (h : a * s = b * s * Q + R) (hR : R < b * s) : Q = a / b ∧ R / s = a % b := by
  have hb : 0 < b := Nat.pos_of_ne_zero fun e => by subst e; omega
  have e1 : a * s = s * (b * Q) + R := by rw [h, Nat.mul_comm b s, Nat.mul_assoc]
  have h1 : b * Q ≤ a := by
    have h2 : s * (b * Q) ≤ s * a := by rw [Nat.mul_comm s a]; omega
    exact Nat.le_of_mul_le_mul_left h2 hs
  obtain ⟨t, rfl⟩ : ∃ t, a = b * Q + t := ⟨a - b * Q, by omega⟩
  have hRt : R = t * s := by
    rw [Nat.add_mul, Nat.mul_comm (b * Q) s] at e1
    omega
  have ht : t < b := by
    rw [hRt] at hR
    exact Nat.lt_of_mul_lt_mul_right hR
  subst hRt
  rw [Nat.mul_div_cancel _ hs, Nat.mul_add_mod, Nat.mod_eq_of_lt ht, Nat.mul_add_div hb, Nat.div_eq_of_lt ht]
  exact ⟨rfl, rfl⟩
/-- The reference's step of the product that is subtracted: T is what is left at a place. -/
theorem ref_msub {ui c g vi : Nat} (hu : ui < 1000000000) (hc : c ≤ g) (hg : g < 1000000000) (hv : vi < 1000000000) : ∃ (T M : Int) (z c' : Nat), (ui : Int) - c - ((g * vi : Nat) : Int) = T ∧ T.tmod 1000000000 = M ∧ (M + 1000000000) % 1000000000 = (z : Int) ∧ ((z : Int) - T) / 1000000000 = (c' : Int) ∧
    z < 1000000000 ∧ c' ≤ g ∧ z + c + g * vi = ui + 1000000000 * c' ∧ T ≤ z ∧ -1000000000000000000 ≤ T ∧ T < 1000000000 ∧ -1000000000 < M ∧ M < 1000000000 := by
  have hm : g * vi ≤ g * 999999999 := Nat.mul_le_mul_left _ (by omega)
  obtain ⟨T, hT⟩ : ∃ T : Int, (ui : Int) - c - ((g * vi : Nat) : Int) = T := ⟨_, rfl⟩
  generalize g * vi = p at *
  have h1 := Int.mul_tdiv_add_tmod T 1000000000
  have h2 := Int.tmod_lt_of_pos T (b := 1000000000) (by omega)
  have h3 := Int.lt_tmod_of_pos T (b := 1000000000) (by omega)
  obtain ⟨M, hM⟩ : ∃ M, T.tmod 1000000000 = M := ⟨_, rfl⟩
  rw [hM] at h1 h2 h3
  generalize T.tdiv 1000000000 = q at *
  refine ⟨T, M, ((M + 1000000000) % 1000000000).toNat, ((((M + 1000000000) % 1000000000) - T) / 1000000000).toNat, hT, hM, ?_, ?_, ?_, ?_, ?_, ?_, ?_, ?_, ?_, ?_⟩ <;> omega
theorem msub_ref {s u v : List Nat} {g i c z c' : Nat} (hl : s.length = i) (h : val s + g * val (v.take i) = val (u.take i) + 1000000000 ^ i * c)
    (hz : z + c + g * v.getD i 0 = u.getD i 0 + 1000000000 * c') : val (s ++ [z]) + g * val (v.take (i + 1)) = val (u.take (i + 1)) + 1000000000 ^ (i + 1) * c' := by
  rw [val_snoc, hl, val_take_next, val_take_next, Nat.pow_succ]
  have h2 := congrArg (1000000000 ^ i * ·) hz
  simp only [Nat.mul_add] at h2 ⊢
  rw [Nat.mul_left_comm (1000000000 ^ i) g] at h2
  rw [Nat.mul_assoc (1000000000 ^ i) 1000000000 c']
  generalize 1000000000 ^ i = p at *
  omega
/-- A window of a list, one place more being written. -/
theorem seg_set {o : List Nat} {j i z : Nat} (h : j + i < o.length) : ((o.set (j + i) z).drop j).take (i + 1) = (o.drop j).take i ++ [z] := by
  apply List.ext_getElem?
  intro k
  simp only [List.getElem?_take, List.getElem?_drop, List.getElem?_append, List.getElem?_set, List.length_take, List.length_drop]
  by_cases hk : k < i
  · rw [if_pos (by omega), if_neg (by omega), if_pos (by omega), if_pos hk]
  · by_cases hk2 : k = i
    · subst hk2
      simp [h, show ¬ (k < min k (o.length - j)) by omega, show k - min k (o.length - j) = 0 by omega]
    · simp [show ¬ (k < i + 1) by omega, show ¬ (k < min i (o.length - j)) by omega]
      omega
theorem take_set_ge {o : List Nat} {j i z : Nat} : (o.set (j + i) z).take j = o.take j := by rw [List.take_set_of_le (by omega)]
theorem drop_set_lt {o : List Nat} {j i z : Nat} : (o.set (j + i) z).drop (j + i + 1) = o.drop (j + i + 1) := by rw [List.drop_set_of_lt (by omega)]
theorem mb (x p : Nat) : x * 1000000000 * p = 1000000000 * (x * p) := by rw [Nat.mul_comm x, Nat.mul_assoc]
theorem mb' (x p : Nat) : x * (1000000000 * p) = 1000000000 * (x * p) := Nat.mul_left_comm _ _ _
/-- The highest limbs of a window and of a divisor. -/
structure EstS (U V u0 u1 u2 v1 v2 P U' V' : Nat) : Prop where
  hU : U = ((u0 * 1000000000 + u1) * 1000000000 + u2) * P + U'
  hV : V = (v1 * 1000000000 + v2) * P + V'
  lU : U' < P
  lV : V' < P
  b0 : u0 < 1000000000
  b1 : u1 < 1000000000
  b2 : u2 < 1000000000
  c1 : v1 < 1000000000
  c2 : v2 < 1000000000
  v0 : 0 < v1
  le : u0 ≤ v1
  lt : U < 1000000000 * V
theorem val_three {l : List Nat} {n : Nat} (hl : l.length = n + 1) (hn : 2 ≤ n) : val l = ((l.getD n 0 * 1000000000 + l.getD (n - 1) 0) * 1000000000 + l.getD (n - 2) 0) * 1000000000 ^ (n - 2) + val (l.take (n - 2)) := by
  obtain ⟨m, rfl⟩ : ∃ m, n = m + 2 := ⟨n - 2, by omega⟩
  have h0 : val l = val (l.take (m + 2 + 1)) := by rw [List.take_of_length_le (by omega)]
  rw [h0, val_take_next, val_take_next l (m + 1), val_take_next l m]
  simp only [show m + 2 - 1 = m + 1 by omega, show m + 2 - 2 = m by omega, Nat.pow_succ]
  generalize 1000000000 ^ m = p
  have e0 : p * 1000000000 * 1000000000 * l.getD (m + 2) 0 = 1000000000 * (1000000000 * (l.getD (m + 2) 0 * p)) := by rw [Nat.mul_comm, Nat.mul_comm (p * 1000000000), mb', Nat.mul_comm p, mb']
  have e1 : p * 1000000000 * l.getD (m + 1) 0 = 1000000000 * (l.getD (m + 1) 0 * p) := by rw [Nat.mul_comm, Nat.mul_comm p, mb']
  have e2 : p * l.getD m 0 = l.getD m 0 * p := Nat.mul_comm _ _
  rw [e0, e1, e2, Nat.add_mul, mb, Nat.add_mul, mb]
  omega
theorem val_two {l : List Nat} {n : Nat} (hl : l.length = n) (hn : 2 ≤ n) : val l = (l.getD (n - 1) 0 * 1000000000 + l.getD (n - 2) 0) * 1000000000 ^ (n - 2) + val (l.take (n - 2)) := by
  obtain ⟨m, rfl⟩ : ∃ m, n = m + 2 := ⟨n - 2, by omega⟩
  have h0 : val l = val (l.take (m + 1 + 1)) := by rw [List.take_of_length_le (by omega)]
  rw [h0, val_take_next l (m + 1), val_take_next l m]
  simp only [show m + 2 - 1 = m + 1 by omega, show m + 2 - 2 = m by omega, Nat.pow_succ]
  generalize 1000000000 ^ m = p
  have e1 : p * 1000000000 * l.getD (m + 1) 0 = 1000000000 * (l.getD (m + 1) 0 * p) := by rw [Nat.mul_comm, Nat.mul_comm p, mb']
  have e2 : p * l.getD m 0 = l.getD m 0 * p := Nat.mul_comm _ _
  rw [e1, e2, Nat.add_mul, mb]
  omega
theorem est_setup {l v : List Nat} {n : Nat} (hl : l.length = n + 1) (hv : v.length = n) (hn : 2 ≤ n) (sl : Sm l) (sv : Sm v) (h0 : 0 < v.getD (n - 1) 0) (hlt : val l < 1000000000 * val v) :
    EstS (val l) (val v) (l.getD n 0) (l.getD (n - 1) 0) (l.getD (n - 2) 0) (v.getD (n - 1) 0) (v.getD (n - 2) 0) (1000000000 ^ (n - 2)) (val (l.take (n - 2))) (val (v.take (n - 2))) := by
  have h1 := val_lt (sl.take (n - 2))
  have h2 := val_lt (sv.take (n - 2))
  rw [List.length_take_of_le (by omega)] at h1 h2
  refine ⟨val_three hl hn, val_two hv hn, h1, h2, sl.getD _, sl.getD _, sl.getD _, sv.getD _, sv.getD _, h0, ?_, hlt⟩
  have e1 := val_three hl hn
  have e2 := val_two hv hn
  have b1 := sl.getD (n - 1)
  have b2 := sv.getD (n - 2)
  generalize l.getD n 0 = u0 at *
  generalize l.getD (n - 1) 0 = u1 at *
  generalize l.getD (n - 2) 0 = u2 at *
  generalize v.getD (n - 1) 0 = v1 at *
  generalize v.getD (n - 2) 0 = v2 at *
  generalize 1000000000 ^ (n - 2) = p at *
  refine Nat.le_of_not_lt fun hgt => ?_
  have h3 : (v1 + 1) * 1000000000 * 1000000000 * p ≤ u0 * 1000000000 * 1000000000 * p := Nat.mul_le_mul_right _ (Nat.mul_le_mul_right _ (Nat.mul_le_mul_right _ hgt))
  have h4 : v2 * p ≤ 999999999 * p := Nat.mul_le_mul_right _ (by omega)
  have h5 : (v1 + 1) * p ≤ u0 * p := Nat.mul_le_mul_right _ hgt
  rw [Nat.add_mul, mb, Nat.add_mul, mb] at e1
  rw [Nat.add_mul, mb] at e2
  rw [Nat.add_mul] at h5
  clear h3
  omega
/-- What the loop of the estimate holds. -/
structure EstI (U V u0 u1 v1 G R : Nat) : Prop where
  top : u0 * 1000000000 + u1 = G * v1 + R
  q : U / V ≤ G
  g2 : G ≤ 2000000000
  r2 : R ≤ 2000000000
section
variable {U V u0 u1 u2 v1 v2 P U' V' G R : Nat}
theorem EstS.pos (h : EstS U V u0 u1 u2 v1 v2 P U' V') : 0 < V := by have := h.lt; omega
theorem EstI.start (h : EstS U V u0 u1 u2 v1 v2 P U' V') : EstI U V u0 u1 v1 ((u0 * 1000000000 + u1) / v1) ((u0 * 1000000000 + u1) % v1) := by
  have hr := Nat.mod_lt (u0 * 1000000000 + u1) h.v0
  refine ⟨(Nat.div_add_mod' _ _).symm, ?_, est_bound h.v0 rfl h.b1 h.le (Nat.le_refl _), by have := h.c1; omega⟩
  refine est_first (P := 1000000000 * P) (U := U) (V := V) ?_ ?_ (Nat.div_mul_le_self U V) h.v0
  · have h0 := h.hU; have h1 := h.lU; have h2 := h.b2
    obtain ⟨t, ht⟩ : ∃ t, u0 * 1000000000 + u1 = t := ⟨_, rfl⟩
    rw [ht] at h0 ⊢
    have h3 : u2 * P ≤ 999999999 * P := Nat.mul_le_mul_right _ (by omega)
    have e1 := Nat.add_mul (t * 1000000000) u2 P
    have e2 := mb t P
    have e3 := Nat.add_mul t 1 (1000000000 * P)
    have e4 := mb' t P
    omega
  · have h0 := h.hV
    have e1 := Nat.add_mul (v1 * 1000000000) v2 P
    have e2 := mb v1 P
    have e4 := mb' v1 P
    omega
theorem EstI.big (h : EstS U V u0 u1 u2 v1 v2 P U' V') (k : EstI U V u0 u1 v1 G R) (hR : R < 1000000000) (hG : 1000000000 ≤ G) : EstI U V u0 u1 v1 (G - 1) (R + v1) := by
  obtain ⟨g, rfl⟩ : ∃ g, G = g + 1 := ⟨G - 1, by omega⟩
  have ht := k.top
  rw [Nat.add_mul] at ht
  refine ⟨by rw [Nat.add_sub_cancel]; omega, ?_, by have := k.g2; omega, by have := h.c1; omega⟩
  have : U / V < 1000000000 := (Nat.div_lt_iff_lt_mul h.pos).2 h.lt
  omega
theorem EstI.less (h : EstS U V u0 u1 u2 v1 v2 P U' V') (k : EstI U V u0 u1 v1 G R) (hR : R < 1000000000) (hG : R * 1000000000 + u2 < G * v2) : EstI U V u0 u1 v1 (G - 1) (R + v1) ∧ 0 < G := by
  have hg0 : 0 < G := Nat.pos_of_ne_zero fun e => by subst e; omega
  have ht := k.top
  have hq : U / V ≤ G - 1 := by
    refine est_less (u := (u0 * 1000000000 + u1) * 1000000000 + u2) (v := v1 * 1000000000 + v2) h.hU h.lU (by rw [h.hV]; omega) (Nat.div_mul_le_self U V) ?_
    refine Nat.lt_of_not_le fun hle => ?_
    have := (est_test ht).1 hle
    omega
  obtain ⟨g, rfl⟩ : ∃ g, G = g + 1 := ⟨G - 1, by omega⟩
  rw [Nat.add_mul] at ht
  exact ⟨⟨by rw [Nat.add_sub_cancel]; omega, hq, by have := k.g2; omega, by have := h.c1; omega⟩, hg0⟩
theorem EstI.done (h : EstS U V u0 u1 u2 v1 v2 P U' V') (k : EstI U V u0 u1 v1 G R) (hd : 1000000000 ≤ R ∨ (G < 1000000000 ∧ G * v2 ≤ R * 1000000000 + u2)) : G < 1000000000 ∧ G * V < U + V := by
  have hgd : G < 1000000000 ∧ G * v2 ≤ R * 1000000000 + u2 := by
    rcases hd with hd | hd
    · exact est_done k.top rfl h.b1 h.c2 h.le hd
    · exact hd
  refine ⟨hgd.1, est_upper h.hU h.hV h.lV ((est_test k.top).2 hgd.2) ?_ ?_⟩
  · have := h.v0
    omega
  · have := h.v0
    omega
end
/-- What the loop of the product that is subtracted holds at round i. -/
structure MsubI (us vs : List Nat) (j n G i c : Nat) (o : List Nat) : Prop where
  sm : Sm o
  len : o.length = us.length
  lo : o.take j = us.take j
  hi : o.drop (j + i) = us.drop (j + i)
  c1 : c ≤ G
  eq : val ((o.drop j).take i) + G * val (vs.take i) = val (((us.drop j).take (n + 1)).take i) + 1000000000 ^ i * c
theorem MsubI.start {us vs : List Nat} {j n G : Nat} (h : Sm us) : MsubI us vs j n G 0 0 us := ⟨h, rfl, rfl, rfl, Nat.zero_le _, by simp⟩
theorem getD_drop_eq {o us : List Nat} {m : Nat} (h : o.drop m = us.drop m) : o.getD m 0 = us.getD m 0 := by
  have := congrArg (fun l : List Nat => l[0]?) h
  simp only [List.getElem?_drop, Nat.add_zero] at this
  rw [List.getD_eq_getElem?_getD, List.getD_eq_getElem?_getD, this]
theorem drop_succ_eq {o us : List Nat} {m : Nat} (h : o.drop m = us.drop m) : o.drop (m + 1) = us.drop (m + 1) := by
  have := congrArg (List.drop 1) h
  simpa [List.drop_drop] using this
theorem win_getD {us : List Nat} {j n i : Nat} (hi : i ≤ n) : ((us.drop j).take (n + 1)).getD i 0 = us.getD (j + i) 0 := by
  rw [List.getD_eq_getElem?_getD, List.getD_eq_getElem?_getD, List.getElem?_take, if_pos (by omega), List.getElem?_drop]
theorem MsubI.next {us vs o : List Nat} {j n G i c z c' : Nat} (h : MsubI us vs j n G i c o) (hi : i ≤ n) (hl : j + n + 1 ≤ us.length) (hz : z < 1000000000) (hc : c' ≤ G) (he : z + c + G * vs.getD i 0 = us.getD (j + i) 0 + 1000000000 * c') :
    MsubI us vs j n G (i + 1) c' (o.set (j + i) z) := by
  have hlt : j + i < o.length := by rw [h.len]; omega
  refine ⟨h.sm.set _ hz, by rw [List.length_set, h.len], by rw [take_set_ge, h.lo], by rw [← Nat.add_assoc, drop_set_lt, drop_succ_eq h.hi], hc, ?_⟩
  rw [seg_set hlt]
  refine msub_ref ?_ h.eq ?_
  · rw [List.length_take_of_le (by simp; omega)]
  · rw [he, win_getD hi]
theorem win_of {o us : List Nat} {j n z : Nat} (hl : o.length = us.length) (hn : j + n + 1 ≤ us.length) (lo : o.take j = us.take j) (hi : o.drop (j + n) = us.drop (j + n)) :
    o.set (j + n) z = us.take j ++ ((o.drop j).take n ++ [z]) ++ us.drop (j + n + 1) := by
  have h1 : o.set (j + n) z = (o.set (j + n) z).take j ++ ((o.set (j + n) z).drop j).take (n + 1) ++ (o.set (j + n) z).drop (j + n + 1) := by
    rw [List.append_assoc, show j + n + 1 = j + (n + 1) by omega, ← List.drop_drop, List.take_append_drop, List.take_append_drop]
  rw [h1, take_set_ge, seg_set (by omega), drop_set_lt, lo, drop_succ_eq hi]
/-- What a step of the long division leaves: the window holds the remainder. -/
structure WinOut (us : List Nat) (j n R : Nat) (o : List Nat) : Prop where
  ex : ∃ win : List Nat, o = us.take j ++ win ++ us.drop (j + n + 1) ∧ win.length = n + 1 ∧ Sm win ∧ val win = R
theorem WinOut.mk' {o us : List Nat} {j n R : Nat} (hl : o.length = us.length) (hn : j + n + 1 ≤ us.length) (lo : o.take j = us.take j) (hi : o.drop (j + n) = us.drop (j + n)) (sm : Sm o) (hv : val ((o.drop j).take n) = R) : WinOut us j n R (o.set (j + n) 0) := by
  refine ⟨_, win_of hl hn lo hi, ?_, ((sm.drop j).take n).append (Sm.cons (by omega) Sm.nil), ?_⟩
  · rw [List.length_append, List.length_take_of_le (by simp; omega)]; rfl
  · rw [val_append, hv]; simp [val_cons]
/-- The end of the subtraction: what the last limb says. -/
theorem MsubI.fits {us vs o : List Nat} {j n G c U V u0 : Nat} (h : MsubI us vs j n G n c o) (hn : j + n + 1 ≤ us.length) (lv : vs.length = n) (sv : Sm vs) (hU : val ((us.drop j).take (n + 1)) = U) (hV : val vs = V) (h0 : us.getD (j + n) 0 = u0) (hq : U / V ≤ G) (hV0 : 0 < V) (hc : c ≤ u0) :
    G = U / V ∧ u0 = c ∧ WinOut us j n (U % V) (o.set (j + n) 0) := by
  have he := h.eq
  rw [val_take_all (l := vs) (by rw [lv]; exact Nat.le_refl _), hV] at he
  have hs : U = val (((us.drop j).take (n + 1)).take n) + 1000000000 ^ n * u0 := by
    have hl : ((us.drop j).take (n + 1)).length = n + 1 := List.length_take_of_le (by simp; omega)
    have := val_take_next ((us.drop j).take (n + 1)) n
    rw [val_take_all (by omega), hU] at this
    rw [this, win_getD (Nat.le_refl _), h0]
  have hVp : V ≤ 1000000000 ^ n := by have := val_lt sv; rw [lv, hV] at this; omega
  obtain ⟨h1, h2, h3⟩ := msub_fits he hs hc hq hV0 hVp
  exact ⟨h1, h3, WinOut.mk' h.len hn h.lo h.hi h.sm h2⟩
/-- What the loop that adds the divisor again holds. -/
structure AddI (o vs : List Nat) (j i k : Nat) (p : List Nat) : Prop where
  sm : Sm p
  len : p.length = o.length
  lo : p.take j = o.take j
  hi : p.drop (j + i) = o.drop (j + i)
  k1 : k ≤ 1
  eq : val ((p.drop j).take i) + 1000000000 ^ i * k = val ((o.drop j).take i) + val (vs.take i)
theorem AddI.start {o vs : List Nat} {j : Nat} (h : Sm o) : AddI o vs j 0 0 o := ⟨h, rfl, rfl, rfl, Nat.zero_le _, by simp⟩
theorem AddI.next {o vs p : List Nat} {j i k : Nat} (h : AddI o vs j i k p) (so : Sm o) (sv : Sm vs) (hl : j + i < o.length) :
    AddI o vs j (i + 1) ((o.getD (j + i) 0 + vs.getD i 0 + k) / 1000000000) (p.set (j + i) ((o.getD (j + i) 0 + vs.getD i 0 + k) % 1000000000)) := by
  have b1 := so.getD (j + i)
  have b2 := sv.getD i
  have b3 := h.k1
  have hlt : j + i < p.length := by rw [h.len]; omega
  refine ⟨h.sm.set _ (by omega), by rw [List.length_set, h.len], by rw [take_set_ge, h.lo], by rw [← Nat.add_assoc, drop_set_lt, drop_succ_eq h.hi], by omega, ?_⟩
  rw [seg_set hlt]
  have hg : (o.drop j).getD i 0 = o.getD (j + i) 0 := by rw [List.getD_eq_getElem?_getD, List.getElem?_drop, List.getD_eq_getElem?_getD]
  have := add_step (s := (p.drop j).take i) (a := o.drop j) (b := vs) (i := i) (c := k) (by rw [List.length_take_of_le (by simp; omega)]) h.eq
  rw [hg, show o.getD (j + i) 0 + k + vs.getD i 0 = o.getD (j + i) 0 + vs.getD i 0 + k by omega] at this
  exact this
theorem MsubI.lacks {us vs o : List Nat} {j n G c U V u0 : Nat} (h : MsubI us vs j n G n c o) (hn : j + n + 1 ≤ us.length) (lv : vs.length = n) (sv : Sm vs) (hU : val ((us.drop j).take (n + 1)) = U) (hV : val vs = V) (h0 : us.getD (j + n) 0 = u0) (hq : U / V ≤ G) (hu : G * V < U + V) (hV0 : 0 < V) (hc : u0 < c) :
    c = u0 + 1 ∧ ∀ k p, AddI o vs j n k p → k = 1 ∧ U / V = G - 1 ∧ 0 < G ∧ WinOut us j n (U % V) (p.set (j + n) 0) := by
  have he := h.eq
  rw [val_take_all (l := vs) (by rw [lv]; exact Nat.le_refl _), hV] at he
  have hs : U = val (((us.drop j).take (n + 1)).take n) + 1000000000 ^ n * u0 := by
    have hl : ((us.drop j).take (n + 1)).length = n + 1 := List.length_take_of_le (by simp; omega)
    have := val_take_next ((us.drop j).take (n + 1)) n
    rw [val_take_all (by omega), hU] at this
    rw [this, win_getD (Nat.le_refl _), h0]
  have hVp : V ≤ 1000000000 ^ n := by have := val_lt sv; rw [lv, hV] at this; omega
  have hW : val ((o.drop j).take n) < 1000000000 ^ n := by
    have := val_lt ((h.sm.drop j).take n)
    rwa [List.length_take_of_le (by rw [List.length_drop, h.len]; omega)] at this
  have hc1 : c = u0 + 1 := by
    obtain ⟨d, rfl⟩ : ∃ d, c = u0 + 1 + d := ⟨c - (u0 + 1), by omega⟩
    rcases Nat.eq_zero_or_pos d with rfl | hd
    · rfl
    · exfalso
      have h1 : 1000000000 ^ n * 1 ≤ 1000000000 ^ n * d := Nat.mul_le_mul_left _ hd
      rw [Nat.mul_add, Nat.mul_add] at he
      omega
  refine ⟨hc1, fun k p ha => ?_⟩
  have hadd := ha.eq
  rw [val_take_all (l := vs) (by rw [lv]; exact Nat.le_refl _), hV] at hadd
  have hp : val ((p.drop j).take n) < 1000000000 ^ n := by
    have := val_lt ((ha.sm.drop j).take n)
    rwa [List.length_take_of_le (by rw [List.length_drop, ha.len, h.len]; omega)] at this
  obtain ⟨h1, h2, h3⟩ := msub_lacks he hs hc hq hu hV0 hVp hW hadd hp
  refine ⟨?_, h1, h2, WinOut.mk' (by rw [ha.len, h.len]) hn (by rw [ha.lo, h.lo]) (by rw [ha.hi, h.hi]) ha.sm h3⟩
  -- the carry: W + V = U mod V + B^n
  have hm := Nat.div_add_mod U V
  rw [h1] at hm
  obtain ⟨t, rfl⟩ : ∃ t, G = t + 1 := ⟨G - 1, by omega⟩
  rw [Nat.add_sub_cancel, Nat.mul_comm] at hm
  rw [Nat.add_mul, hc1, Nat.mul_add] at he
  rw [h3] at hadd
  have hk := ha.k1
  have hP : 0 < 1000000000 ^ n := Nat.pow_pos (by omega)
  rcases (show k = 0 ∨ k = 1 by omega) with rfl | rfl
  · exfalso; omega
  · rfl
theorem top_limb {b n x : Nat} (hn : (limbs b).length = n + 1) (hx : (limbs b)[n]? = some x) : 0 < x ∧ x < 1000000000 ∧ b < 1000000000 ^ n * (x + 1) := by
  refine ⟨Nat.pos_of_ne_zero (limbs_last b x ?_), (sm_limbs b).get hx, ?_⟩
  · rw [List.getLast?_eq_getElem?, hn]; exact hx
  · have h1 := val_take_succ hx
    rw [val_take_all (by omega), val_limbs] at h1
    have h2 := val_lt ((sm_limbs b).take n)
    rw [List.length_take_of_le (by omega)] at h2
    rw [Nat.mul_add]
    omega
theorem scale_len {b n x : Nat} (hn : (limbs b).length = n + 1) (hx : (limbs b)[n]? = some x) :
    (limbs (b * (1000000000 / (x + 1)))).length = n + 1 ∧ 0 < 1000000000 / (x + 1) ∧ 1000000000 / (x + 1) < 1000000000 := by
  obtain ⟨h0, h1, h2⟩ := top_limb hn hx
  have h3 : (x + 1) * (1000000000 / (x + 1)) ≤ 1000000000 := Nat.mul_div_le _ _
  have h4 : 0 < 1000000000 / (x + 1) := Nat.div_pos (by omega) (by omega)
  have h5 : 1000000000 / (x + 1) < 1000000000 := Nat.div_lt_self (by omega) (by omega)
  generalize 1000000000 / (x + 1) = d at *
  refine ⟨?_, h4, h5⟩
  have hge : 1000000000 ^ n ≤ b := limbs_lt_length.1 (by omega)
  have hlo : 1000000000 ^ n ≤ b * d := Nat.le_trans hge (Nat.le_mul_of_pos_right b h4)
  have hup : b * d < 1000000000 ^ (n + 1) := by
    have e1 : b * d < 1000000000 ^ n * (x + 1) * d := Nat.mul_lt_mul_of_pos_right h2 h4
    rw [Nat.mul_assoc] at e1
    have e2 : 1000000000 ^ n * ((x + 1) * d) ≤ 1000000000 ^ n * 1000000000 := Nat.mul_le_mul_left _ h3
    rw [Nat.pow_succ]
    omega
  have h6 := limbs_length_le.2 hup
  have h7 := limbs_lt_length.2 hlo
  omega
theorem limbs_top {m n : Nat} (h : (limbs m).length = n + 1) : 0 < (limbs m).getD n 0 := by
  have hlt : n < (limbs m).length := by omega
  have := limbs_last m (limbs m)[n] (by rw [List.getLast?_eq_getElem?, h]; exact List.getElem?_eq_getElem hlt)
  rw [List.getD_eq_getElem?_getD, List.getElem?_eq_getElem hlt]
  exact Nat.pos_of_ne_zero this
/-- What the loop of the long division holds, k places being left. -/
structure DivI (U V n L k : Nat) (o Q : List Nat) : Prop where
  so : Sm o
  lo : o.length = L
  hi : ∀ i, k + n ≤ i → o.getD i 0 = 0
  eq : U = V * (1000000000 ^ k * val (Q.drop k)) + val o
  lt : val (o.drop k) < V
  sq : Sm Q
  lq : Q.length = L - n
  vn : V ≤ 1000000000 ^ n
theorem DivI.start {U V n L : Nat} {o : List Nat} (vn : V ≤ 1000000000 ^ n) (so : Sm o) (lo : o.length = L) (hn : n ≤ L) (hU : val o = U) (lt : val (o.drop (L - n)) < V) : DivI U V n L (L - n) o (List.replicate (L - n) 0) := by
  refine ⟨so, lo, fun i hi => ?_, ?_, lt, Sm.zeros _, by simp, vn⟩
  · rw [List.getD_eq_getElem?_getD, List.getElem?_eq_none (by omega)]; rfl
  · rw [List.drop_of_length_le (by simp)]; simp [hU]
theorem DivI.win {U V n L j : Nat} {o Q : List Nat} (h : DivI U V n L (j + 1) o Q) (hj : j + n + 1 ≤ L) : val ((o.drop j).take (n + 1)) < 1000000000 * V := by
  have hw : ((List.replicate n 0 ++ [0] : List Nat)).length = n + 1 := by simp
  have hrest : o.drop (j + n + 1) = List.replicate (L - (j + n + 1)) 0 := by
    rw [List.eq_replicate_iff]
    refine ⟨by simp [h.lo], fun x hx => ?_⟩
    obtain ⟨k, hk⟩ := List.getElem?_of_mem hx
    rw [List.getElem?_drop] at hk
    have := h.hi (j + n + 1 + k) (by omega)
    rw [List.getD_eq_getElem?_getD, hk] at this
    exact this
  have hW : val ((o.drop j).take (n + 1)) = val (o.drop j) := by
    have h1 := val_split (o.drop j) (n + 1) (by simp [h.lo]; omega)
    rw [List.drop_drop, show j + (n + 1) = j + n + 1 by omega, hrest, val_zeros] at h1
    omega
  have hjl : j < o.length := by rw [h.lo]; omega
  have hd := val_drop (List.getElem?_eq_getElem hjl)
  have hx := h.so.get (List.getElem?_eq_getElem hjl)
  have := h.lt
  rw [hW, hd]
  omega
theorem DivI.next {U V n L j : Nat} {o o' Q : List Nat} (h : DivI U V n L (j + 1) o Q) (hj : j + n + 1 ≤ L) (hw : WinOut o j n (val ((o.drop j).take (n + 1)) % V) o') :
    DivI U V n L j o' (Q.set j (val ((o.drop j).take (n + 1)) / V)) := by
  obtain ⟨win, rfl, h1, h2, h3⟩ := hw.ex
  have hjq : j < Q.length := by rw [h.lq]; omega
  have hz : ∀ i, j + 1 + n ≤ i → o.getD i 0 = 0 := fun i hi => h.hi i (by omega)
  obtain ⟨r1, r2, r3, r4⟩ := div_round (U := U) (V := V) (n := n) (j := j) (u := o) (w' := win) (Q := Q.drop (j + 1)) (by rw [h.lo]; exact hj) hz h.eq h.lt h.so h1 h3
  have hV : 0 < V := by have := h.lt; omega
  have hq : val ((o.drop j).take (n + 1)) / V < 1000000000 := (Nat.div_lt_iff_lt_mul hV).2 r1
  have e : (Q.set j (val ((o.drop j).take (n + 1)) / V)).drop j = val ((o.drop j).take (n + 1)) / V :: Q.drop (j + 1) := by
    rw [List.drop_eq_getElem_cons (by simpa using hjq), List.drop_set_of_lt (by omega)]
    simp
  refine ⟨((h.so.take j).append h2).append (h.so.drop _), ?_, fun i hi => ?_, by rw [e]; exact r2, r3, h.sq.set _ hq, by rw [List.length_set, h.lq], h.vn⟩
  · simp only [List.length_append, List.length_take, List.length_drop, h1, h.lo]
    omega
  · by_cases hi2 : j + 1 + n ≤ i
    · exact r4 i hi2
    · -- the window's highest limb: the remainder is below V, and V has n limbs
      obtain rfl : i = j + n := by omega
      have htl : (o.take j).length = j := List.length_take_of_le (by rw [h.lo]; omega)
      rw [List.getD_eq_getElem?_getD, List.append_assoc, List.getElem?_append_right (by omega), htl, show j + n - j = n by omega, List.getElem?_append_left (by omega), ← List.getD_eq_getElem?_getD]
      have e2 := val_take_next win n
      rw [val_take_all (by omega), h3] at e2
      have e3 := Nat.mod_lt (val ((o.drop j).take (n + 1))) hV
      have e4 := h.vn
      rcases Nat.eq_zero_or_pos (win.getD n 0) with hz0 | hz0
      · exact hz0
      · exfalso
        have : 1000000000 ^ n * 1 ≤ 1000000000 ^ n * win.getD n 0 := Nat.mul_le_mul_left _ hz0
        omega
theorem DivI.done {U V n L : Nat} {o Q : List Nat} (h : DivI U V n L 0 o Q) (hn : n ≤ L) : U = V * val Q + val o ∧ val o < V ∧ val (o.take n) = val o := by
  have he := h.eq
  have hl := h.lt
  rw [List.drop_zero] at hl
  rw [List.drop_zero, Nat.pow_zero, Nat.one_mul] at he
  refine ⟨he, hl, ?_⟩
  have hs := val_split o n (by rw [h.lo]; exact hn)
  have hrest : o.drop n = List.replicate (L - n) 0 := by
    rw [List.eq_replicate_iff]
    refine ⟨by simp [h.lo], fun x hx => ?_⟩
    obtain ⟨k, hk⟩ := List.getElem?_of_mem hx
    rw [List.getElem?_drop] at hk
    have := h.hi (n + k) (by omega)
    rw [List.getD_eq_getElem?_getD, hk] at this
    exact this
  rw [hrest, val_zeros] at hs
  omega
/-- The highest limbs of the scaled number are below the scaled divisor. -/
theorem scaled_top {o : List Nat} {a b d L n : Nat} (hl : o.length = L + 1) (hv : val o = a * d) (ha : a < 1000000000 ^ L) (hn : n ≤ L + 1) (h1 : 0 < n) (hb : 1000000000 ^ (n - 1) ≤ b) (hd : 0 < d) : val (o.drop (L + 1 - n)) < b * d := by
  have hs := val_split o (L + 1 - n) (by omega)
  rw [hv] at hs
  have h2 : a * d < 1000000000 ^ L * d := Nat.mul_lt_mul_of_pos_right ha hd
  have h3 : 1000000000 ^ L = 1000000000 ^ (L + 1 - n) * 1000000000 ^ (n - 1) := by rw [← Nat.pow_add]; congr 1; omega
  rw [h3, Nat.mul_assoc] at h2
  have h4 : 1000000000 ^ (L + 1 - n) * val (o.drop (L + 1 - n)) < 1000000000 ^ (L + 1 - n) * (1000000000 ^ (n - 1) * d) := by omega
  have h5 := Nat.lt_of_mul_lt_mul_left h4
  have h6 : 1000000000 ^ (n - 1) * d ≤ b * d := Nat.mul_le_mul_right _ hb
  omega
end Go.Proofs.YtpehhgkghgbhiaaGreatDoor
namespace Go.Proofs.YtpehhgkghgbhiaaGreatDoor
/-- What a step of the long division is given: the window at j of the array us, the divisor vs. -/
structure StepIn (us vs : List Nat) (j n : Nat) : Prop where
  n2 : 2 ≤ n
  nm : n ≤ 1000001
  lv : vs.length = n
  lu : j + n + 1 ≤ us.length
  um : us.length ≤ 3000000
  su : Sm us
  sv : Sm vs
  top : 0 < vs.getD (n - 1) 0
  lt : val ((us.drop j).take (n + 1)) < 1000000000 * val vs
theorem StepIn.est {us vs : List Nat} {j n : Nat} (h : StepIn us vs j n) : EstS (val ((us.drop j).take (n + 1))) (val vs) (us.getD (j + n) 0) (us.getD (j + (n - 1)) 0) (us.getD (j + (n - 2)) 0) (vs.getD (n - 1) 0) (vs.getD (n - 2) 0) (1000000000 ^ (n - 2)) (val (((us.drop j).take (n + 1)).take (n - 2))) (val (vs.take (n - 2))) := by
  have hl : ((us.drop j).take (n + 1)).length = n + 1 := List.length_take_of_le (by have := h.lu; simp; omega)
  have := est_setup hl h.lv h.n2 ((h.su.drop j).take _) h.sv h.top h.lt
  rwa [win_getD (Nat.le_refl _), win_getD (by omega), win_getD (by omega)] at this
theorem getD_some {l : List Nat} {i : Nat} (h : i < l.length) : l[i]? = some (l.getD i 0) := by
  rw [List.getD_eq_getElem?_getD, List.getElem?_eq_getElem h]; rfl
end Go.Proofs.YtpehhgkghgbhiaaGreatDoor
namespace Go.Proofs.YtpehhgkghgbhiaaGreatDoor
open Go.RowKit
/-- The first cells of block g are the limbs l. -/
def ArrP (k : IntKind) (t : TypeId) (w : World) (g : Nat) (l : List Nat) : Prop := ∃ cs : Array Value, Blk w g cs t ∧ cs.toList.take l.length = ints k l
theorem ArrP.cell {k : IntKind} {t : TypeId} {w : World} {g : Nat} {l : List Nat} (h : ArrP k t w g l) {i x : Nat} (hx : l[i]? = some x) : w.cell? ⟨g, i, none⟩ = some (.int k (x : Int)) := by
  obtain ⟨cs, hb, ht⟩ := h
  rw [hb.cell]
  have h1 := ints_get (k := k) hx
  rw [← ht, List.getElem?_take] at h1
  split at h1
  · simpa using h1
  · cases h1
theorem ArrP.free {k : IntKind} {t : TypeId} {w : World} {g : Nat} {l : List Nat} (h : ArrP k t w g l) (i : Nat) : w.frozen? ⟨g, i, none⟩ = false := by
  obtain ⟨cs, hb, _⟩ := h; exact hb.free i
theorem ArrP.lt {k : IntKind} {t : TypeId} {w : World} {g : Nat} {l : List Nat} (h : ArrP k t w g l) : g < w.heap.size := by
  obtain ⟨cs, hb, _⟩ := h; exact hb.lt
theorem ArrP.set {k : IntKind} {t : TypeId} {w : World} {g : Nat} {l : List Nat} (h : ArrP k t w g l) (i x : Nat) : ArrP k t (w.setCell ⟨g, i, none⟩ (.int k (x : Int))) g (l.set i x) := by
  obtain ⟨cs, hb, ht⟩ := h
  refine ⟨_, hb.set i _, ?_⟩
  rw [List.length_set, ← ints_set, ← ht, Array.toList_setIfInBounds, List.take_set]
theorem ArrP.call {k : IntKind} {t : TypeId} {w w' : World} {g : Nat} {l : List Nat} (h : ArrP k t w g l) (hb : Below w.heap.size w w') : ArrP k t w' g l := by
  obtain ⟨cs, hc, ht⟩ := h; exact ⟨cs, hc.call hb, ht⟩
theorem ArrP.drewN {k : IntKind} {t : TypeId} {w : World} {g : Nat} {l : List Nat} (h : ArrP k t w g l) (n : Nat) : ArrP k t (w.drewN n) g l := h
theorem ArrP.other {k : IntKind} {t : TypeId} {w : World} {g : Nat} {l : List Nat} (h : ArrP k t w g l) {a : Addr} (ha : a.block ≠ g) (v : Value) : ArrP k t (w.setCell a v) g l := by
  obtain ⟨cs, hb, ht⟩ := h; exact ⟨cs, hb.other ha v, ht⟩
theorem ArrP.gb {k : IntKind} {t : TypeId} {w w' : World} {g g' : Nat} {l : List Nat} (h : ArrP k t w g l) (hg : w.grownBy w' (some g')) (hne : g ≠ g') : ArrP k t w' g l := by
  obtain ⟨cs, hb, ht⟩ := h; exact ⟨cs, hb.grown hg (fun e => hne (by injection e with e; exact e.symm)), ht⟩
theorem ArrP.row {k : IntKind} {t : TypeId} {w : World} {g : Nat} {l : List Nat} (h : ArrP k t w g l) {n c : Nat} (hn : n ≤ l.length) (hc : n ≤ c) (hm : c ≤ maxLen) : Row w (.slice (some ⟨g, 0, none⟩) n c) (ints k (l.take n)) := by
  obtain ⟨cs, hb, ht⟩ := h
  refine Row.of_blk hb (by rw [ints_length, List.length_take_of_le hn]) (by omega) (fun i x hx => ?_) hc hm
  rw [← ints_take, ← ht, List.getElem?_take] at hx
  split at hx
  · rw [List.getElem?_take] at hx
    split at hx
    · simpa using hx
    · cases hx
  · cases hx
theorem ArrP.of_owns {k : IntKind} {t : TypeId} {w : World} {B : Nat} {v : Value} {l : List Nat} (h : w.ownsRow B t 1 v l.length (ints k l)) (h0 : 0 < l.length) : ∃ g c, v = .slice (some ⟨g, 0, none⟩) l.length c ∧ B ≤ g ∧ l.length ≤ c ∧ c ≤ maxLen ∧ ArrP k t w g l := by
  rcases h.2 with ⟨rfl, hn⟩ | ⟨g, cap, cur, rfl, hb, hg, h1, h2, h3, h4⟩
  · omega
  · exact ⟨g, cap, rfl, hb, h1, h2, cur, hg, by rw [Nat.mul_one] at h4; exact h4⟩
end Go.Proofs.YtpehhgkghgbhiaaGreatDoor
namespace Go.Proofs.YtpehhgkghgbhiaaGreatDoor
open Go.RowKit
set_option linter.unusedVariables false
/-- What a step leaves: the quotient of the window comes back, the window holds the remainder, nothing else has turned. -/
def EstOut (us vs : List Nat) (gu j n : Nat) (w : World) (e : Ending) (w' : World) : Prop :=
  e = .returned (.int .u64 ((val ((us.drop j).take (n + 1)) / val vs : Nat) : Int)) ∧ ∃ o, WinOut us j n (val ((us.drop j).take (n + 1)) % val vs) o ∧ ArrP .u64 124 w' gu o ∧ w.grownBy w' (some gu)
theorem est_take {ui vi p G c b : Nat} (hu : ui < 1000000000) (hv : vi < 1000000000) (hp : G * vi = p) (hG : G < 1000000000) (hb : b ≤ 1) (hc : c ≤ 999999999) (hcb : c + b ≤ G) :
    p ≤ 999999998000000001 ∧ (p + c) / 1000000000 ≤ 999999999 ∧ (∀ b', b' ≤ 1 → ui + 1000000000 * b' < (p + c) % 1000000000 + b + 1000000000 → (p + c) % 1000000000 + b ≤ ui + 1000000000 * b' → (p + c) / 1000000000 + b' ≤ G ∧ (ui + 1000000000 * b' - ((p + c) % 1000000000 + b)) < 1000000000 ∧ (ui + 1000000000 * b' - ((p + c) % 1000000000 + b)) + (c + b) + G * vi = ui + 1000000000 * ((p + c) / 1000000000 + b')) := by
  have h1 : p ≤ G * 999999999 := by rw [← hp]; exact Nat.mul_le_mul_left _ (by omega)
  refine ⟨by omega, by omega, fun b' hb' h2 h3 => ?_⟩
  rw [hp]
  refine ⟨by omega, by omega, by omega⟩
set_option maxRecDepth 100000 in
set_option maxHeartbeats 8000000 in
theorem l_estimate (w : World) (gu j cu : Nat) (us : List Nat) (gv ov cv : Nat) (vs : List Nat) (n : Nat) (hS : StepIn us vs j n) (hU : ArrP .u64 124 w gu us) (hV : Row w (.slice (some ⟨gv, ov, none⟩) n cv) (ints .u64 vs)) (hne : gv ≠ gu) :
    Calls Tryz.prog 176 #[.slice (some ⟨gu, j, none⟩) (n + 1) cu, .slice (some ⟨gv, ov, none⟩) n cv] w fun e w' => EstOut us vs gu j n w e w' := by
  have n2 := hS.n2; have nm := hS.nm; have lu := hS.lu; have um := hS.um
  have cv' : ∀ i, i < n → w.cell? ⟨gv, ov + i, none⟩ = some (.int .u64 (vs.getD i 0 : Nat)) := fun i hi => by
    obtain ⟨g, o, e, hg, hc⟩ := hV.at (ints_get (getD_some (l := vs) (i := i) (by rw [hS.lv]; exact hi)))
    simp at e
    obtain ⟨rfl, rfl⟩ := e
    exact hc
  have cu' : ∀ i, i ≤ n → w.cell? ⟨gu, j + i, none⟩ = some (.int .u64 (us.getD (j + i) 0 : Nat)) := fun i hi => hU.cell (getD_some (by omega))
  have hE := hid hS.est
  have a0 := cu' n (Nat.le_refl _)
  have a1 := cu' (n - 1) (by omega)
  have a2 := cu' (n - 2) (by omega)
  have b1 := cv' (n - 1) (by omega)
  have b2 := cv' (n - 2) (by omega)
  have CV := hid cv'; have CU := hid cu'; have HS := hid hS; have HU := hid hU
  clear cv' cu' hS hU hV
  obtain ⟨u0, hu0⟩ : ∃ x, us.getD (j + n) 0 = x := ⟨_, rfl⟩
  obtain ⟨u1, hu1⟩ : ∃ x, us.getD (j + (n - 1)) 0 = x := ⟨_, rfl⟩
  obtain ⟨u2, hu2⟩ : ∃ x, us.getD (j + (n - 2)) 0 = x := ⟨_, rfl⟩
  obtain ⟨v1, hv1⟩ : ∃ x, vs.getD (n - 1) 0 = x := ⟨_, rfl⟩
  obtain ⟨v2, hv2⟩ : ∃ x, vs.getD (n - 2) 0 = x := ⟨_, rfl⟩
  rw [hu0, hu1, hu2, hv1, hv2] at hE
  rw [hu0] at a0; rw [hu1] at a1; rw [hu2] at a2; rw [hv1] at b1; rw [hv2] at b2
  have HU0 := hid hu0; clear hu0 hu1 hu2 hv1 hv2
  have l0 := hE.out.b0; have l1 := hE.out.b1; have l2 := hE.out.b2; have l3 := hE.out.c1; have l4 := hE.out.c2; have l5 := hE.out.v0
  have dz : ((v1 : Int) == 0) = false := by simp; omega
  have f1 : (0 : Int) ≤ (n : Int) - 1 := by omega
  have f2 : (n : Int) - 1 < (n : Int) + 1 := by omega
  have f3 : (n : Int) - 1 < (n : Int) := by omega
  have f4 : (0 : Int) ≤ (n : Int) - 2 := by omega
  have f5 : (n : Int) - 2 < (n : Int) + 1 := by omega
  have f6 : (n : Int) - 2 < (n : Int) := by omega
  have f7 : (0 : Int) ≤ (n : Int) := by omega
  have f8 : (n : Int) < (n : Int) + 1 := by omega
  have e1 : IntKind.i64.wrap ((n : Int) - 1) = (n : Int) - 1 := IntWalk.i64_in _ (by omega)
  have e2 : IntKind.i64.wrap ((n : Int) - 2) = (n : Int) - 2 := IntWalk.i64_in _ (by omega)
  have e3 : ((n : Int) - 1).toNat = n - 1 := by omega
  have e4 : ((n : Int) - 2).toNat = n - 2 := by omega
  have e5 : IntKind.u64.wrap ((u0 : Int) * 1000000000) = (u0 : Int) * 1000000000 := IntWalk.u64_in _ (by omega)
  have e6 : IntKind.u64.wrap ((u0 : Int) * 1000000000 + u1) = (u0 : Int) * 1000000000 + u1 := IntWalk.u64_in _ (by omega)
  go_enter Tryz.func176, Tryz.ntmps176
  go_wp2_with fail
  go_quiet (fail)
  clear e5 e6
  go_wp2_with fail
  go_quiet (fail)
  go_upto_block 0 with (fail)
  rename_i nq1 nq2
  obtain ⟨V, hV⟩ : ∃ V, val vs = V := ⟨_, rfl⟩
  obtain ⟨U, hU⟩ : ∃ U, val ((us.drop j).take (n + 1)) = U := ⟨_, rfl⟩
  rw [hU, hV] at hE
  have HVU := hid (And.intro hU hV); clear hU hV
  go_cut [7] (fun gg wx => ∃ (G q : Nat), gg = .int .u64 G ∧ wx = w.drewN q ∧ G < 1000000000 ∧ Hid (U / V ≤ G ∧ G * V < U + V))
  case first =>
    go_wp2_with fail
    go_loopw [7, 8] (fun gg rr wr => ∃ G R q : Nat, gg = .int .u64 G ∧ rr = .int .u64 R ∧ wr = w.drewN q ∧ Hid (EstI U V u0 u1 v1 G R)) (fun gg _ _ => (intOf gg).toNat)
    case atStart =>
      exact ⟨_, _, _, by rw [Int.natCast_ediv]; rfl, by rw [Int.natCast_emod]; rfl, by rw [World.drewN_drewN], EstI.start hE.out⟩
    case round =>
      obtain ⟨G, R, q, rfl, rfl, rfl, hI⟩ := hrel
      have g2 := hI.out.g2; have r2 := hI.out.r2
      by_cases hR : R < 1000000000
      · have q1 : decide ((R : Int) < 1000000000) = true := by simp; omega
        by_cases hG : 1000000000 ≤ G
        · have q2 : decide ((1000000000 : Int) ≤ (G : Int)) = true := by simp; omega
          have HN := hid (hI.out.big hE.out hR hG)
          go_wp2_with fail
          go_big_quiet (fail)
          clear q1 q2
          go_wp2_with fail
          go_quiet (fail)
          go_wp2_with fail
          go_roundw
          case rel => exact ⟨G - 1, R + v1, _, by go_num, by go_num, by rw [World.drewN_drewN, World.drewN_drewN], HN⟩
          case measure => simp [intOf] <;> omega
        · have q2 : decide ((1000000000 : Int) ≤ (G : Int)) = false := by simp; omega
          obtain ⟨p, hp⟩ : ∃ p, G * v2 = p := ⟨_, rfl⟩
          have hpb : p ≤ 999999999 * 999999999 := by rw [← hp]; exact Nat.mul_le_mul (by omega) (by omega)
          have HPI := hid (show ((G : Int) * (v2 : Int)) = (p : Int) from by rw [← Int.natCast_mul, hp])
          by_cases hT : R * 1000000000 + u2 < p
          · have q3 : decide ((R : Int) * 1000000000 + u2 < (p : Int)) = true := by simp; omega
            have HN := hid (hI.out.less hE.out hR (by rw [hp]; exact hT))
            have hg0 := HN.out.2
            clear hp hT
            obtain ⟨x5, x6, x7⟩ : IntKind.u64.wrap ((G : Int) * (v2 : Int)) = (p : Int) ∧ IntKind.u64.wrap ((R : Int) * 1000000000) = (R : Int) * 1000000000 ∧ IntKind.u64.wrap ((R : Int) * 1000000000 + u2) = (R : Int) * 1000000000 + u2 := by
              refine ⟨by rw [HPI.out]; exact IntWalk.u64_in _ (by omega), IntWalk.u64_in _ (by omega), IntWalk.u64_in _ (by omega)⟩
            go_wp2_with fail
            go_big_quiet (fail)
            clear q1 q2 q3 x5 x6 x7
            go_wp2_with fail
            go_quiet (fail)
            go_wp2_with fail
            go_roundw
            case rel => exact ⟨G - 1, R + v1, _, by go_num, by go_num, by rw [World.drewN_drewN, World.drewN_drewN], HN.out.1⟩
            case measure => simp [intOf] <;> omega
          · have q3 : decide ((R : Int) * 1000000000 + u2 < (p : Int)) = false := by simp; omega
            have HD := hid (hI.out.done hE.out (.inr ⟨by omega, by rw [hp]; omega⟩))
            have HQ := hid hI.out.q
            clear hp hT
            obtain ⟨x5, x6, x7⟩ : IntKind.u64.wrap ((G : Int) * (v2 : Int)) = (p : Int) ∧ IntKind.u64.wrap ((R : Int) * 1000000000) = (R : Int) * 1000000000 ∧ IntKind.u64.wrap ((R : Int) * 1000000000 + u2) = (R : Int) * 1000000000 + u2 := by
              refine ⟨by rw [HPI.out]; exact IntWalk.u64_in _ (by omega), IntWalk.u64_in _ (by omega), IntWalk.u64_in _ (by omega)⟩
            go_wp2_with fail
            go_big_quiet (fail)
            clear q1 q2 q3 x5 x6 x7
            go_wp2_with fail
            go_meet
            exact ⟨G, _, rfl, by rw [World.drewN_drewN], HD.out.1, HQ.out, HD.out.2⟩
      · have q1 : decide ((R : Int) < 1000000000) = false := by simp; omega
        have HD := hid (hI.out.done hE.out (.inl (by omega)))
        have HQ := hid hI.out.q
        go_wp2_with fail
        go_big_quiet (fail)
        clear q1
        go_wp2_with fail
        go_meet
        exact ⟨G, _, rfl, by rw [World.drewN_drewN], HD.out.1, HQ.out, HD.out.2⟩
  case rest =>
    obtain ⟨G, q, rfl, rfl, hG, hQ⟩ := hcut
    have hE1 := hE
    clear a0 a1 a2 b1 b2 dz f1 f2 f3 f4 f5 f6 f7 f8 e1 e2 e3 e4 hE l0 l1 l2 l3 l4 l5
    go_wp2_with fail
    go_loopw [9, 10, 11, 12, 13, 79] (fun cc bb s11 s12 s13 ii wr => ∃ (i c b : Nat) (o : List Nat), cc = .int .u64 c ∧ bb = .int .u64 b ∧ b ≤ 1 ∧ c ≤ 999999999 ∧ ii = .int .i64 i ∧ i ≤ n ∧ Hid (MsubI us vs j n G i (c + b) o) ∧ Hid (ArrP .u64 124 wr gu o) ∧ Hid (w.grownBy wr (some gu))) (fun _ _ _ _ _ ii _ => n - (intOf ii).toNat)
    case atStart => exact ⟨0, 0, 0, us, rfl, rfl, by omega, by omega, rfl, Nat.zero_le _, MsubI.start HS.out.su, HU.out.drewN q, gb_drewN (World.grownBy.refl w _) q⟩
    case round =>
      obtain ⟨i, c, b, o, rfl, rfl, hb1, hc9, rfl, hin, hM, hO, hB⟩ := hrel
      have hol := hid hM.out.len
      have hcG := hM.out.c1
      by_cases hlt : i < n
      · have d1 := hO.out.cell (getD_some (l := o) (i := j + i) (by rw [hol.out]; omega))
        have d4 := hO.out.free (j + i)
        have d2 := gb_cell hB.out (CV.out i hlt) hne
        have hvl := HS.out.sv.getD i
        have hul := HS.out.su.getD (j + i)
        rw [getD_drop_eq hM.out.hi] at d1
        obtain ⟨ui, hui⟩ : ∃ x, us.getD (j + i) 0 = x := ⟨_, rfl⟩
        obtain ⟨vi, hvi⟩ : ∃ x, vs.getD i 0 = x := ⟨_, rfl⟩
        rw [hui] at d1 hul; rw [hvi] at d2 hvl
        obtain ⟨p, hp⟩ : ∃ p, G * vi = p := ⟨_, rfl⟩
        obtain ⟨hpb, hcb, hst⟩ := est_take hul hvl hp hG hb1 hc9 hcG
        have HST := hid hst
        have HPI := hid (show ((G : Int) * (vi : Int)) = (p : Int) from by rw [← Int.natCast_mul, hp])
        have HUI := hid hui; have HVI := hid hvi
        clear hp hst hui hvi
        have f1 : (0 : Int) ≤ (i : Int) := by omega
        have f2 : (i : Int) < (n : Int) := by omega
        have f3 : (i : Int) < (n : Int) + 1 := by omega
        obtain ⟨k1, hk1⟩ : ∃ k, (p + c) / 1000000000 = k := ⟨_, rfl⟩
        obtain ⟨t1, ht1⟩ : ∃ t, (p + c) % 1000000000 = t := ⟨_, rfl⟩
        rw [hk1] at HST hcb
        rw [ht1] at HST
        have ht9 : t1 < 1000000000 := by omega
        have K1 := hid (show (((p : Int) + c) / 1000000000) = (k1 : Int) from by rw [← hk1]; omega)
        have T1 := hid (show (((p : Int) + c) % 1000000000) = (t1 : Int) from by rw [← ht1]; omega)
        clear hk1 ht1
        by_cases hneg : ui < t1 + b
        · have q1 : decide ((ui : Int) < (t1 : Int) + (b : Int)) = true := by simp; omega
          obtain ⟨z1, z2, z3⟩ := HST.out 1 (by omega) (by omega) (by omega)
          have HN := hid (hM.out.next (by omega) lu z2 z1 (by rw [HUI.out, HVI.out]; exact z3))
          obtain ⟨z, hz⟩ : ∃ z, ui + 1000000000 * 1 - (t1 + b) = z := ⟨_, rfl⟩
          rw [hz] at HN
          have HZ := hid (show ((ui : Int) + 1000000000 - ((t1 : Int) + b)) = (z : Int) from by omega)
          clear z1 z2 z3 hz
          have x5 : IntKind.u64.wrap ((G : Int) * (vi : Int)) = (p : Int) := by rw [HPI.out]; exact IntWalk.u64_in _ (by omega)
          have y1 := K1.out; have y2 := T1.out
          go_wp2_with fail
          clear x5 y1 y2
          go_roundw
          case rel =>
            have D5 := (hO.out.set (j + i) (ui + 1000000000)).set (j + i) z
            rw [List.set_set, Int.natCast_add] at D5
            rw [K1.out, HZ.out]
            exact ⟨i + 1, k1, 1, _, rfl, rfl, by omega, by omega, by go_num, by omega, HN, D5, gb_set (gb_set hB.out _ _) _ _⟩
          case measure => simp [intOf] <;> omega
        · have q1 : decide ((ui : Int) < (t1 : Int) + (b : Int)) = false := by simp; omega
          obtain ⟨z1, z2, z3⟩ := HST.out 0 (by omega) (by omega) (by omega)
          have HN := hid (hM.out.next (by omega) lu z2 z1 (by rw [HUI.out, HVI.out]; exact z3))
          obtain ⟨z, hz⟩ : ∃ z, ui + 1000000000 * 0 - (t1 + b) = z := ⟨_, rfl⟩
          rw [hz] at HN
          have HZ := hid (show ((ui : Int) - ((t1 : Int) + b)) = (z : Int) from by omega)
          clear z1 z2 z3 hz
          have x5 : IntKind.u64.wrap ((G : Int) * (vi : Int)) = (p : Int) := by rw [HPI.out]; exact IntWalk.u64_in _ (by omega)
          have y1 := K1.out; have y2 := T1.out
          go_wp2_with fail
          clear x5 y1 y2
          go_roundw
          case rel =>
            rw [K1.out, HZ.out]
            exact ⟨i + 1, k1, 0, _, rfl, rfl, by omega, by omega, by go_num, by omega, HN, hO.out.set (j + i) z, gb_set hB.out _ _⟩
          case measure => simp [intOf] <;> omega
      · obtain rfl : i = n := by omega
        have hg0 := getD_drop_eq hM.out.hi
        have d1 := hO.out.cell (getD_some (l := o) (i := j + i) (by rw [hol.out]; omega))
        have d4 := hO.out.free (j + i)
        rw [hg0, HU0.out] at d1
        have hV0 := hE1.out.pos
        have l0 := hE1.out.b0
        clear hg0
        by_cases hc : c + b ≤ u0
        · obtain ⟨r1, r2, r3⟩ := hM.out.fits lu HS.out.lv HS.out.sv HVU.out.1 HVU.out.2 HU0.out hQ.out.1 hV0 hc
          have R1 := hid r1; have R3 := hid r3; have R2 := hid r2
          have q1 : decide ((c : Int) + (b : Int) ≤ (u0 : Int)) = true := by simp; omega
          have q2 : (c : Int) + b ≤ u0 := by omega
          clear r1 r2 r3 hc
          go_wp2_with fail
          go_ret
          refine ⟨ret_int (by rw [HVU.out.1, HVU.out.2, ← R1.out]), _, by rw [HVU.out.1, HVU.out.2]; exact R3.out, ?_, gb_set hB.out _ _⟩
          have e0 : ((u0 : Int) - ((c : Int) + b)) = ((0 : Nat) : Int) := by have := R2.out; omega
          rw [e0]
          exact hO.out.set (j + i) 0
        · obtain ⟨hc1, hadd⟩ := hM.out.lacks lu HS.out.lv HS.out.sv HVU.out.1 HVU.out.2 HU0.out hQ.out.1 hQ.out.2 hV0 (by omega)
          have HADD := hid hadd
          have q1 : decide ((c : Int) + (b : Int) ≤ (u0 : Int)) = false := by simp; omega
          clear hadd hc hc1
          go_wp2_with fail
          go_loopw [9, 15, 16, 137] (fun cc s15 s16 ii wq => ∃ (y k : Nat) (p : List Nat), cc = .int .u64 k ∧ ii = .int .i64 y ∧ y ≤ i ∧ Hid (AddI o vs j y k p) ∧ Hid (ArrP .u64 124 wq gu p) ∧ Hid (w.grownBy wq (some gu))) (fun _ _ _ ii _ => i - (intOf ii).toNat)
          case atStart => exact ⟨0, 0, o, rfl, rfl, Nat.zero_le _, AddI.start hM.out.sm, hO, hB⟩
          case round =>
            obtain ⟨y, k, p, rfl, rfl, hyi, hA, hP, hB2⟩ := hrel
            have hpl := hid (show p.length = us.length from by rw [hA.out.len, hol.out])
            by_cases hlt2 : y < i
            · have d1 := hP.out.cell (getD_some (l := p) (i := j + y) (by rw [hpl.out]; omega))
              have d4 := hP.out.free (j + y)
              have d2 := gb_cell hB2.out (CV.out y hlt2) hne
              rw [getD_drop_eq hA.out.hi] at d1
              have HN2 := hid (hA.out.next hM.out.sm HS.out.sv (by rw [hol.out]; omega))
              have hvl := HS.out.sv.getD y
              have hul := hM.out.sm.getD (j + y)
              have hk1 := hA.out.k1
              obtain ⟨ui, hui⟩ : ∃ x, o.getD (j + y) 0 = x := ⟨_, rfl⟩
              obtain ⟨vi, hvi⟩ : ∃ x, vs.getD y 0 = x := ⟨_, rfl⟩
              rw [hui] at d1 hul; rw [hvi] at d2 hvl; rw [hui, hvi] at HN2
              clear hui hvi
              have f1 : (0 : Int) ≤ (y : Int) := by omega
              have f2 : (y : Int) < (i : Int) := by omega
              have f3 : (y : Int) < (i : Int) + 1 := by omega
              have hkI : (k : Int) ≤ 1 := by omega
              obtain ⟨x5, x6⟩ : IntKind.u64.wrap ((ui : Int) + vi) = (ui : Int) + vi ∧ IntKind.u64.wrap ((ui : Int) + vi + k) = (ui : Int) + vi + k := by
                refine ⟨IntWalk.u64_in _ (by omega), IntWalk.u64_in _ (by omega)⟩
              go_wp2_with fail
              go_quiet (fail)
              clear x5 x6
              go_wp2_with fail
              go_roundw
              case rel =>
                have hz : (((ui : Int) + vi + k) % 1000000000) = (((ui + vi + k) % 1000000000 : Nat) : Int) := by omega
                rw [hz]
                exact ⟨y + 1, _, _, by go_num, by go_num, by omega, HN2, (hP.out.drewN _).set (j + y) _, gb_set (gb_drewN hB2.out _) _ _⟩
              case measure => simp [intOf] <;> omega
            · obtain rfl : y = i := by omega
              obtain ⟨r0, r1, r2, r3⟩ := HADD.out k p hA.out
              subst r0
              have R1 := hid r1; have R3 := hid r3
              have d1 := hP.out.cell (getD_some (l := p) (i := j + y) (by rw [hpl.out]; omega))
              have d4 := hP.out.free (j + y)
              clear r1 r3
              go_wp2_with fail
              go_ret
              refine ⟨ret_int (by rw [HVU.out.1, HVU.out.2, R1.out]; omega), _, by rw [HVU.out.1, HVU.out.2]; exact R3.out, hP.out.set (j + y) 0, gb_set hB2.out _ _⟩
end Go.Proofs.YtpehhgkghgbhiaaGreatDoor
namespace Go.Proofs.YtpehhgkghgbhiaaGreatDoor
open Go.RowKit
/-- What a function value that is ranged over promises: it hands over an element x behind those of pre only where 'Ok pre x' holds. A round that goes on keeps Kp. All have come: S. A round has said 'no more': Sp. -/
def Feeds {α : Type} (n : Nat) (P : Program) (g : Nat) (lb : Array Value) (encs : α → Array Value) (Kp : World → World → Prop) (Ok : List α → α → Prop) (S Sp : List α → Prop) (w : World) : Prop :=
  ∀ (l : Nat) (J Jx : List α → World → Prop) (W : World), Below w.heap.size w W → AbidesFrom W.heap.size J → AbidesFrom W.heap.size Jx →
    (∀ pre x W1, Ok pre x → J pre W1 → YieldAt Fence.wide (n - 1) P l (encs x) W1 fun e W2 =>
      (e = .returned (.bool true) ∧ J (pre ++ [x]) W2 ∧ Kp W1 W2) ∨ (e = .returned (.bool false) ∧ Jx (pre ++ [x]) W2)) →
    J [] W →
    CallsIn Fence.wide n P g (#[.func (.yield l) #[] #[]] ++ lb) W fun e W2 => (∃ v, e = .returned v) ∧ ((∃ xs, S xs ∧ J xs W2) ∨ (∃ pre, Sp pre ∧ Jx pre W2))
/-- What the rounds leave alone of the statement's own: its record, in the given state, and the block for deferred calls. -/
structure Kept (D : Nat) (r : Loop) (W : World) : Prop where
  loop : W.heap[D + 1]? = some (.loop r)
  calls : W.heap[D]? = some (.deferred (some []))
theorem Kept.cells {D : Nat} {r : Loop} {W W2 : World} {row : Option Nat} (h : Kept D r W) (hg : W.grownBy W2 row) (hr : ∀ k, row = some k → ∃ o : Obj, W.heap[k]? = some o ∧ o.isWalk = true) : Kept D r W2 :=
  ⟨(grownBy_keeps hg hr h.loop rfl).trans h.loop, (grownBy_keeps hg hr h.calls rfl).trans h.calls⟩
theorem Kept.put {D : Nat} {r : Loop} {W : World} (h : Kept D r W) (r2 : Loop) : Kept D r2 (W.putObj (D + 1) (.loop r2)) :=
  ⟨World.putObj_heap_same (Array.getElem?_eq_some_iff.1 h.loop).1, (World.putObj_heap_other (by omega)).trans h.calls⟩
theorem Kept.from {B D : Nat} {r : Loop} {W W2 : World} (h : Kept D r W) (k : KeepsFrom B W W2) (hB : B ≤ D) : Kept D r W2 :=
  ⟨k.same _ _ (by omega) h.loop rfl, k.same _ _ hB h.calls rfl⟩
theorem own_put {β : Type} {B D : Nat} {I : β → World → Prop} (hI : OwnFrom B I) {r : Loop} {s : β} {W : World} (h : Kept D r W) (hB : B ≤ D) (hs : I s W) (o : Obj) : I s (W.putObj (D + 1) o) :=
  hI.putObj o hs (by omega) h.loop rfl
/-- A RANGE OVER A FUNCTION, at the wide fence: the body of a round knows what it is handed. -/
theorem range_ok {α : Type} {P : Program} {n : Nat} {g : Operand} {ps : Array Tmp} {assign body : Code} {Q : Exit → Act → World → Prop} {a : Act} {w : World} (h1 : 1 ≤ n)
    {gf : Nat} {lb : Array Value} (hg : a.eval g = .func (.func gf) #[] lb) (eg : ∀ args w, (callFunc gf args).run P w = .ok (.enter gf args) w)
    {encs : α → Array Value} {Kp : World → World → Prop} {Ok : List α → α → Prop} {S Sp : List α → Prop} {w0 : World} (hseq : Feeds (n - 1) P gf lb encs Kp Ok S Sp w0)
    (hKt : ∀ {A B C : World}, Kp A B → Kp B C → Kp A C) (hKb : ∀ (W : World) (l : Nat) (o o2 : Obj), w.heap.size ≤ l → W.heap[l]? = some o → o.isCells = false → o.isWalk = false → Kp W (W.putObj l o2)) (hb0 : Below w0.heap.size w0 w) (hps : ∀ x, (encs x).size = ps.size)
    (I : List α → World → Prop) (Ix : Code → List α → World → Prop) (hI : OwnFrom w.heap.size I) (hIx : ∀ c, OwnFrom w.heap.size (Ix c)) (h0 : I [] w) (a1 : α → Act)
    (hassign : ∀ (l : Nat) (x : α) (W : World) (K : Act → World → Prop), K (a1 x) W →
      assign.wpIn (Fence.wide.inRound l) (n - 1 - 1) P (Exit.then K (fun _ _ _ => False)) { tmps := (ps.zip (encs x)).foldl (fun t (p, v) => t.setIfInBounds p v) a.tmps, defers := [] } W)
    (hbody : ∀ (l : Nat) (pre : List α) (x : α) (W : World), Ok pre x → I pre W → body.wpIn (Fence.wide.inRound l) (n - 1 - 1) P (ownPostG w.heap.size Kp I Ix (pre ++ [x]) W) (a1 x) W)
    (hdone : ∀ (D : Nat) (xs : List α) (W : World), w.heap.size ≤ D → S xs → I xs W → W.heap[D]? = some (.deferred (some [])) → Q .normal { a with defers := { target := .collected D, args := #[] } :: a.defers } W)
    (hstop : ∀ (D : Nat) (c : Code) (pre : List α) (W : World), w.heap.size ≤ D → Sp pre → Ix c pre W → W.heap[D]? = some (.deferred (some [])) → c.wpIn Fence.wide n P Q { a with defers := { target := .collected D, args := #[] } :: a.defers } W) :
    (Code.rangeFunc g ps assign body).wpIn Fence.wide n P Q a w := by
  refine wpIn_rangeFunc fun fn hfn => ?_
  obtain ⟨R, hR⟩ : ∃ R : LoopState → Option Code → Loop, ∀ s p, R s p = { state := s, pending := p, fn, tmps := a.tmps, params := ps, assign, body, defers := w.heap.size } := ⟨_, fun _ _ => rfl⟩
  have hs : ∀ s p, (R s p).state = s := fun s p => by rw [hR]
  obtain ⟨W1, e1⟩ : ∃ W1, W1 = (w.alloc (.deferred (some []))).alloc (.loop (R .ready none)) := ⟨_, rfl⟩
  have z1 : w.heap.size ≤ W1.heap.size := by rw [e1]; simp; omega
  have k1 : Kept w.heap.size (R .ready none) W1 := by
    rw [e1]
    refine ⟨?_, (Below.heap_alloc _ _ _ (by simp)).trans (World.alloc_heap_new w _)⟩
    have := World.alloc_heap_new (w.alloc (.deferred (some []))) (.loop (R .ready none))
    rwa [World.size_alloc] at this
  have i1 : I [] W1 := by rw [e1]; exact hI.alloc _ (hI.alloc _ h0)
  have b1 : Below w0.heap.size w0 W1 := by
    have : Below w.heap.size w W1 := by rw [e1]; exact ((Below.refl _ w).alloc (Nat.le_refl _) _).alloc (by simp) _
    exact hb0.trans (this.mono hb0.size)
  refine ⟨w.heap.size + 1, [{ target := .collected w.heap.size, args := #[] }], W1, { target := .fn (.func gf) lb, args := #[.func (.yield (w.heap.size + 1)) #[] #[]] }, W1, gf, #[.func (.yield (w.heap.size + 1)) #[] #[]] ++ lb, W1, ?_, ?_, fun f hf => trivial, ?_, fun _ => h1, ?_⟩
  · have := run_enterLoop_outer (P := P) (w := w) fn a.tmps ps assign body
    rw [e1, hR]; exact this
  · simp only [resolve, hg]
    simp [go_sem]
  · simp [invoke, go_sem, eg]
  · refine (hseq (w.heap.size + 1) (fun pre W => I pre W ∧ Kept w.heap.size (R .ready none) W) (fun pre W => ∃ c, Ix c pre W ∧ Kept w.heap.size (R .done (some c)) W) W1 b1
      (fun s A B row hs hg2 hr => ⟨hI s A B row hs.1 hg2 (fun k e => ?_), hs.2.cells hg2 (fun k e => (hr k e).2)⟩)
      (fun s A B row hs hg2 hr => ?_) (fun pre x W hok hJ => ?_) ⟨i1, k1⟩).mono ?_
    · obtain ⟨h2, o, h3, h4⟩ := hr k e
      exact ⟨Nat.le_trans z1 h2, o, h3, Obj.not_cells_of_walk h4⟩
    · obtain ⟨c, hc, hk⟩ := hs
      refine ⟨c, hIx c s A B row hc hg2 (fun k e => ?_), hk.cells hg2 (fun k e => (hr k e).2)⟩
      obtain ⟨h2, o, h3, h4⟩ := hr k e
      exact ⟨Nat.le_trans z1 h2, o, h3, Obj.not_cells_of_walk h4⟩
    · obtain ⟨hi, hk⟩ := hJ
      have hy := run_yield (P := P) (args := encs x) hk.loop (by rw [hR]; exact hps x)
      have kb := hk.put (R .busy none)
      have bg := run_beginRound (P := P) hk.loop (hs _ _)
      rw [show ({ R .ready none with state := .busy } : Loop) = R .busy none by rw [hR, hR]] at bg
      have kk : Kp W (W.putObj (w.heap.size + 1) (.loop (R .busy none))) := hKb _ _ _ _ (by omega) hk.loop rfl rfl
      rw [hR] at hy
      refine ⟨fn, _, assign, body, hy, roundIn_of_wpIn hfn (hassign _ x W _ ⟨_, bg, ?_⟩)⟩
      refine wpIn_mono (hbody _ pre x _ hok (own_put hI hk (Nat.le_refl _) hi _)) ?_
      have fin : ∀ (j : Option Code) (W3 : World), Kept w.heap.size (R .busy none) W3 → (Instr.endRound (w.heap.size + 1) j).run P W3 = .ok (.bool j.isNone) (W3.putObj (w.heap.size + 1) (.loop (R (if j.isNone then .ready else .done) j))) := fun j W3 h3 => by
        have := run_endRound (P := P) j h3.loop
        rw [this, hR, hR]
      rintro e a3 W3 hp
      cases e with
      | normal =>
        obtain ⟨p1, p2, p3⟩ := hp
        have k3 := kb.from p1 (Nat.le_refl _)
        exact ⟨_, _, fin none W3 k3, .inl ⟨rfl, ⟨own_put hI k3 (Nat.le_refl _) p3 _, k3.put _⟩, hKt (hKt kk p2) (hKb _ _ _ _ (by omega) k3.loop rfl rfl)⟩⟩
      | ret =>
        have k3 := kb.from hp.1 (Nat.le_refl _)
        exact ⟨_, _, fin (some .ret) W3 k3, .inr ⟨rfl, .ret, own_put (hIx _) k3 (Nat.le_refl _) hp.2 _, k3.put _⟩⟩
      | exit id =>
        have k3 := kb.from hp.1 (Nat.le_refl _)
        exact ⟨_, _, fin (some (.exit id)) W3 k3, .inr ⟨rfl, .exit id, own_put (hIx _) k3 (Nat.le_refl _) hp.2 _, k3.put _⟩⟩
      | goto t =>
        have k3 := kb.from hp.1 (Nat.le_refl _)
        exact ⟨_, _, fin (some (.goto t)) W3 k3, .inr ⟨rfl, .goto t, own_put (hIx _) k3 (Nat.le_refl _) hp.2 _, k3.put _⟩⟩
      | panic ch => exact hp.elim
      | outgrown => exact hp.elim
    · have en : ∀ {s p W2}, Kept w.heap.size (R s p) W2 → s ≠ .busy → (Instr.endLoop (w.heap.size + 1)).run P W2 = .ok p (W2.putObj (w.heap.size + 1) (.loop (R .exhausted p))) := fun {s p W2} h2 hne => by
        have := run_endLoop (P := P) h2.loop (by rw [hs]; exact hne)
        rw [this, hR, hR]
      rintro e W2 ⟨⟨v, rfl⟩, ⟨xs, hS, hi, hk⟩ | ⟨pre, hSp, c, hi, hk⟩⟩
      · exact ⟨none, _, en hk (by simp), hdone _ xs _ (Nat.le_refl _) hS (own_put hI hk (Nat.le_refl _) hi _) (hk.put (R .exhausted none)).calls⟩
      · exact ⟨some c, _, en hk (by simp), hstop _ c pre _ (Nat.le_refl _) hSp (own_put (hIx c) hk (Nat.le_refl _) hi _) (hk.put (R .exhausted (some c))).calls⟩
/-- No operation is a defer statement. -/
def noDefer (l : List Oper) : Bool := l.all fun o => match o.op with | .defer _ => false | _ => true
theorem noDefer_at {l : List Oper} (h : noDefer l = true) {i : Nat} {o : Oper} (ho : l.toArray[i]? = some o) : ∀ c, o.op ≠ .defer c := by
  intro c e
  rw [List.getElem?_toArray] at ho
  have := List.all_eq_true.1 h o (List.mem_of_getElem? ho)
  rw [e] at this
  cases this
theorem upon_round {F : Fence} {n : Nat} {P : Program} {o : Oper} {a : Act} {next : Act → World → Prop} {Q : Exit → Act → World → Prop} (l : Nat) : ∀ r : Result Next, o.uponIn F n P a next Q r → o.uponIn (F.inRound l) n P a next Q r
  | .ok (.value _) _, h => h
  | .ok .skip _, h => h
  | .ok (.defer _) _, h => h
  | .ok (.enter _ _) _, h => h
  | .ok (.row _ _) _, h => h
  | .ok (.round _ _ _ _ _) _, h => h
  | .halt (.panic _) _, h => h
  | r, h => by
    unfold Oper.uponIn at *
    split at h <;> first | exact h | (exfalso; exact h)
theorem any_round {F : Fence} {n : Nat} {P : Program} {l : List Oper} {Q : Exit → Act → World → Prop} {md : Region.Mode} (hro : F.round = none) (hd : noDefer l = true) (l0 : Nat) : ∀ (fuel : Nat) (listed : Array Bool) (a : Act) (w : World),
    wpAnyIn F n P md l.toArray Q fuel listed a w → wpAnyIn (F.inRound l0) n P md l.toArray Q fuel listed a w := by
  intro fuel
  induction fuel with
  | zero => exact fun _ _ _ h => h
  | succ fuel ih =>
    rintro listed a w ⟨h1, h2⟩
    refine ⟨h1, fun i hi => ?_⟩
    have h := h2 i hi
    unfold wpOpIn at *
    split at h
    · exact ih _ _ _ h
    · rename_i o he
      split at h
      · rename_i hw
        rw [if_pos hw]
        refine ⟨h.1, ?_⟩
        have h3 := (Oper.wpIn_mono (K' := wpAnyIn (F.inRound l0) n P md l.toArray Q fuel (listed.setIfInBounds i true)) (fun a w h => ih _ a w h) h).2
        rw [hro, Oper.semAt_none] at h3
        rw [Fence.inRound_round, Oper.semAt_some l0 _ o (noDefer_at hd he)]
        exact upon_round l0 _ h3
      · rename_i hw
        rw [if_neg hw]
        exact ⟨h.1, ih _ _ _ h.2⟩
/-- A region that draws its order and only reads, within a round. -/
theorem quiet_round {n : Nat} {P : Program} {id : Nat} {Q : Exit → Act → World → Prop} {a : Act} {w : World} {l : List Oper} {l0 : Nat} (hm : P.follows .mixedOrders = true) (hB : Region.lexB .any l.toArray = true) (hd : noDefer l = true)
    (h : wpQuietIn Fence.wide n P l.toArray (fun w' => ∃ n, w' = w.drewN n) (fun a' => ∀ w', (∃ n, w' = w.drewN n) → Q .normal a' w') l a) : (Code.region id l.toArray true).wpIn (Fence.wide.inRound l0) n P Q a w := by
  have hB2 := hB
  simp only [Region.lexB, Bool.and_eq_true] at hB2
  refine wpIn_region_any hm (any_round rfl hd l0 _ _ _ _ (wpAnyIn_of_quiet (C := fun w' => ∃ n, w' = w.drewN n) (Q := fun a' => ∀ w', (∃ n, w' = w.drewN n) → Q .normal a' w') rfl (fun _ w' hw' h => h w' hw') _ _ _ _ ⟨1, rfl⟩ ?_))
  have := wpAnyQIn_lex (F := Fence.wide) (n := n) (C := fun w' => ∃ n, w' = w.drewN n) (md := .any) hB2.1 l.toArray.toList 0 (Array.replicate l.toArray.size false) a (by simp) (by simpa using hB2.2) (by simpa using h)
  simpa using this
end Go.Proofs.YtpehhgkghgbhiaaGreatDoor
namespace Go.Proofs.YtpehhgkghgbhiaaGreatDoor
open Go.RowKit Go.Shelf
set_option linter.unusedVariables false
attribute [local go_sem] Oper.semAt_some
set_option maxRecDepth 100000 in
set_option maxHeartbeats 2000000 in
/-- slices.Backward: the indices from the last one down, each with what lies there then. -/
theorem back_feeds {Kp : World → World → Prop} {V : Nat → Int → Prop} (n : Nat) (hn : 1 ≤ n) (Bs len cap : Nat) (a : Option Addr) (hlen : len ≤ 9000000000000000000) (hcap : len ≤ cap) (w : World) (hKr : ∀ W, Kp W W) (hKt : ∀ {A B C : World}, Kp A B → Kp B C → Kp A C)
    (hread : ∀ W1 W2, Below w.heap.size w W1 → Kp W1 W2 → W2.cell? ⟨Bs, 0, none⟩ = some (.slice a len cap) ∧ ∀ i, i < len → ∃ g o z, a = some ⟨g, o, none⟩ ∧ W2.cell? ⟨g, o + i, none⟩ = some (.int .u64 z) ∧ V i z) :
    Feeds n Tryz.prog 201 #[.pointer (some ⟨Bs, 0, none⟩)] (fun x : Nat × Int => #[.int .i64 (x.1 : Int), .int .u64 x.2]) Kp (fun pre x => x.1 + 1 + pre.length = len ∧ V x.1 x.2) (fun xs => xs.length = len) (fun _ => True) w := by
  intro l J Jx W hW hJ hJx hY h0
  obtain ⟨hb0, -⟩ := hread W W hW (hKr W)
  have HR := hid hread; have HY := hid hY; have HW := hid hW; have HJ := hid hJ; have HJx := hid hJx
  have HKr := hid hKr; have HKt : Hid (∀ A B C : World, Kp A B → Kp B C → Kp A C) := fun A B C h k => hKt h k
  clear hread hY hW hJ hJx hKr hKt
  refine callsIn_of_wp Tryz.func201 rfl trivial ?_ rfl
  simp only [Tryz.ntmps201, List.size_toArray, List.length_cons, List.length_nil, Nat.reduceAdd, Nat.reduceSub, Array.replicate_succ, Array.replicate_zero, List.push_toArray, List.append_toArray, List.nil_append, List.cons_append]
  gi_wp2
  clear hb0
  gi_loopw [3] (fun i wr => ∃ (k : Nat) (t : Int) (pre : List (Nat × Int)), i = .int .i64 t ∧ t = (k : Int) - 1 ∧ k ≤ len ∧ Hid (pre.length + k = len) ∧ J pre wr ∧ Hid (Kp W wr))
    (fun i _ => (intOf i + 1).toNat)
  case atStart => exact ⟨len, _, [], rfl, rfl, Nat.le_refl _, by rw [Hid]; simp, h0, HKr.out W⟩
  case round =>
    obtain ⟨k, t, pre, rfl, ht, hk, hp, hJs, hK⟩ := hrel
    cases k with
    | zero =>
      obtain rfl : t = -1 := by omega
      clear ht
      gi_wp2
      go_end0
      exact ⟨⟨_, rfl⟩, .inl ⟨pre, by have := hp.out; omega, hJs⟩⟩
    | succ j =>
      obtain rfl : t = (j : Int) := by omega
      clear ht
      obtain ⟨hb, hc⟩ := HR.out W wr HW.out hK.out
      obtain ⟨g, o, z, rfl, hcell, hV⟩ := hc j (by omega)
      clear hc
      obtain ⟨fn, tmps, assign, body, hy, hR⟩ := HY.out pre (j, z) wr ⟨by have := hp.out; omega, hV⟩ hJs
      dsimp only at hy
      have HV := hid hV; clear hV
      gi_wp2
      refine hR.mono ?_
      rintro e W3 (⟨rfl, hJ3, hk3⟩ | ⟨rfl, hJx3⟩)
      · have HK3 := hid (HKt.out _ _ _ hK.out hk3)
        clear hk3
        gi_wp2
        go_roundw
        case rel => exact ⟨j, _, pre ++ [(j, z)], rfl, rfl, by omega, by rw [Hid]; have := hp.out; simp; omega, hJ3, HK3⟩
        case measure => simp [intOf] <;> omega
      · gi_wp2
        refine bodyPost_ret (results_none rfl _ _ _) rfl ?_
        exact ⟨⟨_, rfl⟩, .inr ⟨_, trivial, hJx3⟩⟩
/-- slices.Backward(s): the slice value is boxed; the function value captures the box. -/
theorem back_call (a : Option Addr) (len cap : Nat) (w : World) :
    Calls Tryz.prog 164 #[.slice a len cap] w fun e w' => e = .returned (.func (.func 201) #[] #[.pointer (some ⟨w.heap.size, 0, none⟩)]) ∧ w' = w.alloc (.cells #[.slice a len cap] 120) := by
  go_enter Tryz.func164, Tryz.ntmps164
  go_wp2_with fail
  go_ret
  exact ⟨rfl, rfl⟩
/-- What a round keeps: what lay below n0, and the block bs. -/
def KpB (n0 bs : Nat) (W W2 : World) : Prop := Below n0 W W2 ∧ W2.heap[bs]? = W.heap[bs]?
theorem KpB.refl (n0 bs : Nat) (W : World) : KpB n0 bs W W := ⟨Below.refl _ _, rfl⟩
theorem KpB.trans {n0 bs : Nat} {A B C : World} (h : KpB n0 bs A B) (k : KpB n0 bs B C) : KpB n0 bs A C := ⟨h.1.trans k.1, k.2.trans h.2⟩
theorem KpB.put {n0 bs : Nat} {w : World} (hn : n0 ≤ w.heap.size) (hb : bs < w.heap.size) (W : World) (l : Nat) (o o' : Obj) (hl : w.heap.size ≤ l) (h : W.heap[l]? = some o) (h1 : o.isCells = false) (h2 : o.isWalk = false) : KpB n0 bs W (W.putObj l o') :=
  ⟨belowK_b hn W l o o' hl h h1 h2, World.putObj_heap_other (by omega)⟩
theorem KpB.blk {n0 bs : Nat} {W W2 : World} (h : KpB n0 bs W W2) {cs : Array Value} {t : TypeId} (hb : Blk W bs cs t) : Blk W2 bs cs t := h.2.trans hb
theorem Blk.kept {W W2 : World} {b : Nat} {cs : Array Value} {t : TypeId} {row : Option Nat} (h : Blk W b cs t) (hg : W.grownBy W2 row) (hr : ∀ r, row = some r → ∃ o : Obj, W.heap[r]? = some o ∧ o.isCells = false) : Blk W2 b cs t := by
  refine h.grown hg (fun e => ?_)
  obtain ⟨o, ho, hc⟩ := hr b e
  unfold Blk at h
  rw [h] at ho
  cases ho
  cases hc
/-- The end of a function that holds a range over a function. -/
theorem marks_end {n : Nat} {P : Program} {fn : Func} {R : Ending → World → Prop} {tmps : Array Value} {W : World} {D : Nat} {v : Value} (hK : W.heap[D]? = some (.deferred (some [])))
    (hv : (results fn tmps).run P (W.putObj D (.deferred none)) = .ok v (W.putObj D (.deferred none))) (hR : R (.returned v) (W.putObj D (.deferred none))) :
    bodyPostM Fence.wide n P fn R .ret { tmps := tmps, defers := [{ target := .collected D, args := #[] }] } W :=
  ⟨by simp, .inl ⟨_, _, rfl, run_takeDeferred hK, ⟨v, hv, hR⟩⟩⟩
theorem Blk.put {W : World} {b D : Nat} {cs : Array Value} {t : TypeId} (h : Blk W b cs t) (hK : W.heap[D]? = some (.deferred (some []))) (o : Obj) : Blk (W.putObj D o) b cs t :=
  h.kept (grownBy_putObj' _ D o) (fun r e => by cases e; exact ⟨_, hK, rfl⟩)
theorem Row.put {W : World} {D : Nat} {v : Value} {xs : List Value} (h : Row W v xs) (hK : W.heap[D]? = some (.deferred (some []))) (o : Obj) : Row (W.putObj D o) v xs := by
  obtain ⟨a, c, rfl, h1, h2, h3⟩ := h.ex
  refine ⟨a, c, rfl, h1, h2, fun i x hx => ?_⟩
  obtain ⟨g, og, e, hg, hc⟩ := h3 i x hx
  have hgb := grownBy_putObj' W D o
  exact ⟨g, og, e, Nat.lt_of_lt_of_le hg hgb.size, cell_kept hc hgb (fun r e => by cases e; exact ⟨_, hK, rfl⟩)⟩
theorem IsN.put {k : IntKind} {W : World} {D : Nat} {v : Value} {n : Nat} (h : IsN k W v n) (hK : W.heap[D]? = some (.deferred (some []))) (o : Obj) : IsN k (W.putObj D o) v n := Row.put h hK o
end Go.Proofs.YtpehhgkghgbhiaaGreatDoor
namespace Go.Proofs.YtpehhgkghgbhiaaGreatDoor
open Go.RowKit
variable {P : Program} {ops : Array Oper} {oz : Oper} {Q Q' : Exit → Act → World → Prop} {md : Region.Mode}
/-- All are listed. -/
def AllOn (n : Nat) (listed : Array Bool) : Prop := ∀ i, i < n → listed.getD i false = true
theorem all_of_none (hfwd : ∀ i o, ops[i]? = some o → ∀ e ∈ o.after, Region.binds md e = true → e.on < i) {listed : Array Bool} (hs : listed.size = ops.size) (hr : Region.ready md ops listed = []) : AllOn ops.size listed := by
  intro i
  induction i using Nat.strongRecOn with
  | _ i ih =>
    intro hi
    refine Decidable.byContradiction fun hn => ?_
    have hm : i ∈ Region.ready md ops listed := by
      rw [mem_ready]
      refine ⟨?_, ops[i], Array.getElem?_eq_getElem hi, fun e he hb => ih e.on (hfwd i _ (Array.getElem?_eq_getElem hi) e he hb) (by have := hfwd i _ (Array.getElem?_eq_getElem hi) e he hb; omega)⟩
      have h1 : i < listed.size := by omega
      simp [Array.getD, h1] at hn ⊢
      exact hn
    rw [hr] at hm
    cases hm
/-- Whatever is listed, what it waits for is listed too. -/
def Closed (md : Region.Mode) (ops : Array Oper) (listed : Array Bool) : Prop := ∀ j o, ops[j]? = some o → listed.getD j false = true → ∀ e ∈ o.after, Region.binds md e = true → listed.getD e.on false = true
/-- The last waits for i: outright, or over one other. -/
def Waits (md : Region.Mode) (ops : Array Oper) (oz : Oper) (i : Nat) : Prop :=
  ∃ e ∈ oz.after, Region.binds md e = true ∧ (e.on = i ∨ ∃ o, ops[e.on]? = some o ∧ ∃ f ∈ o.after, Region.binds md f = true ∧ f.on = i)
theorem Closed.set {listed : Array Bool} {i : Nat} (h : Closed md ops listed) (hi : i ∈ Region.ready md ops listed) : Closed md ops (listed.setIfInBounds i true) := by
  intro j o ho hj e he hb
  rw [mem_ready] at hi
  obtain ⟨_, o', ho', hall⟩ := hi
  by_cases hji : i = j
  · subst hji
    rw [ho] at ho'
    cases ho'
    exact getD_set_true (hall e he hb)
  · have hj' := hj
    rw [getD_set_ne false hji] at hj'
    exact getD_set_true (h j o ho hj' e he hb)
theorem getD_push_lt {listed : Array Bool} {b : Bool} {i : Nat} {d : Bool} (h : i < listed.size) : (listed.push b).getD i d = listed.getD i d := by
  simp [Array.getD, h, Nat.lt_succ_of_lt h, Array.getElem_push_lt h]
theorem ready_push_all {listed : Array Bool} (hs : listed.size = ops.size) (hall : AllOn ops.size listed) :
    ∀ j, j ∈ Region.ready md (ops.push oz) (listed.push false) → j = ops.size := by
  intro j hj
  rw [mem_ready] at hj
  obtain ⟨h0, o, ho, _⟩ := hj
  have hlt : j < ops.size + 1 := by have := (Array.getElem?_eq_some_iff.1 ho).1; simpa using this
  refine Decidable.byContradiction fun hne => ?_
  have hj' : j < ops.size := by omega
  rw [getD_push_lt (by omega)] at h0
  have := hall j hj'
  have h1 : j < listed.size := by omega
  simp [Array.getD, h1] at h0 this
  rw [h0] at this; cases this
theorem ready_push_some (hz : ∀ e ∈ oz.after, Region.binds md e = true → e.on < ops.size) (hz2 : ∀ i, i < ops.size → Waits md ops oz i) (hfwd : ∀ i o, ops[i]? = some o → ∀ e ∈ o.after, Region.binds md e = true → e.on < i) {listed : Array Bool} (hs : listed.size = ops.size) (hcl : Closed md ops listed) (hn : ¬ AllOn ops.size listed) :
    ∀ j, j ∈ Region.ready md (ops.push oz) (listed.push false) → j ∈ Region.ready md ops listed := by
  intro j hj
  rw [mem_ready] at hj ⊢
  obtain ⟨h0, o, ho, hall⟩ := hj
  have hlt : j < ops.size + 1 := by have := (Array.getElem?_eq_some_iff.1 ho).1; simpa using this
  by_cases hj' : j = ops.size
  · subst hj'
    have : o = oz := by simpa using ho.symm
    subst this
    exact absurd (fun i hi => by
      obtain ⟨e, he, hb, hon⟩ := hz2 i hi
      have h1 := hall e he hb
      have h2 := hz e he hb
      rw [getD_push_lt (by omega)] at h1
      rcases hon with rfl | ⟨o', ho', f, hf, hfb, rfl⟩
      · exact h1
      · exact hcl _ o' ho' h1 f hf hfb) hn
  · have hjl : j < ops.size := by omega
    rw [Array.getElem?_push_lt hjl] at ho
    rw [getD_push_lt (by omega)] at h0
    refine ⟨h0, o, by rw [Array.getElem?_eq_getElem hjl]; exact ho, fun e he hb => ?_⟩
    have h1 := hall e he hb
    have h2 := hfwd j o (by rw [Array.getElem?_eq_getElem hjl]; exact ho) e he hb
    rwa [getD_push_lt (by omega)] at h1
theorem set_push {listed : Array Bool} {i : Nat} (h : i < listed.size) : (listed.push false).setIfInBounds i true = (listed.setIfInBounds i true).push false := by
  apply Array.ext_getElem?
  intro k
  simp only [Array.getElem?_setIfInBounds, Array.getElem?_push, Array.size_push, Array.size_setIfInBounds]
  by_cases hk : i = k
  · subst hk; simp [h, Nat.lt_succ_of_lt h]; omega
  · simp [hk]
/-- The facts on a region's operations that the splitting asks, as one test. -/
def splitB (ops : Array Oper) (oz : Oper) : Bool :=
  ops.toList.all (fun o => o.guard.isNone) && oz.guard.isNone && oz.after.toList.all (fun e => decide (e.on < ops.size)) &&
  (List.range ops.size).all (fun i => oz.after.toList.any fun e => Region.binds .any e && (e.on == i || (match ops[e.on]? with | some o => o.after.toList.any (fun f => Region.binds .any f && f.on == i) | none => false))) &&
  (List.range ops.size).all (fun i => match ops[i]? with | some o => o.after.toList.all (fun e => decide (e.on < i)) | none => true)
section
variable {F : Fence} {n : Nat}
theorem wpIn_turn {o : Oper} {a : Act} {w : World} {K K' : Act → World → Prop} (hK : ∀ a w, K a w → K' a w) (hP : ∀ c a w, Q' (.panic c) a w → Q (.panic c) a w) (hL : LetsOut Q' → LetsOut Q)
    (h : o.wpIn F n P a w K Q') : o.wpIn F n P a w K' Q := by
  unfold Oper.wpIn at *
  refine ⟨h.1, ?_⟩
  have h := h.2
  generalize (o.semAt F.round a.eval).run P w = r at *
  cases r with
  | ok m w' =>
    cases m <;> simp only [Oper.uponIn] at h ⊢
    case value u => exact hK _ _ h
    case skip => exact hK _ _ h
    case defer d => exact hK _ _ h
    case enter f args =>
      refine ⟨h.1, CallsIn.mono h.2 fun e w'' he => ?_⟩
      cases e with
      | returned u => exact hK _ _ he
      | panicked c => exact hP _ _ _ he
      | outgrown => exact hL he
    case row row args => exact ⟨h.1, RowsIn.mono h.2 fun u w'' he => hK _ _ he⟩
    case round l f tmps ts bd =>
      refine ⟨h.1, RoundIn.mono h.2 fun e w'' he => ?_⟩
      cases e with
      | returned u => exact hK _ _ he
      | panicked c => exact hP _ _ _ he
      | outgrown => exact hL he
  | halt x w' =>
    cases x <;> simp only [Oper.uponIn] at h ⊢
    case panic u => exact hP _ _ _ h
/-- The splitting, within a fence. -/
theorem wpAnyIn_last (hgd : ∀ (i : Nat) (o : Oper), ops[i]? = some o → o.guard = none) (hgz : oz.guard = none)
    (hz : ∀ e ∈ oz.after, Region.binds md e = true → e.on < ops.size) (hz2 : ∀ i, i < ops.size → Waits md ops oz i)
    (hfwd : ∀ i o, ops[i]? = some o → ∀ e ∈ o.after, Region.binds md e = true → e.on < i)
    (hP : ∀ c a w, Q' (.panic c) a w → Q (.panic c) a w) (hL : LetsOut Q' → LetsOut Q) (hN : ∀ a w, Q' .normal a w → oz.wpIn F n P a w (fun a w => Q .normal a w) Q) :
    ∀ (fuel : Nat) (listed : Array Bool) (a : Act) (w : World), listed.size = ops.size → Closed md ops listed → wpAnyIn F n P md ops Q' fuel listed a w → wpAnyIn F n P md (ops.push oz) Q (fuel + 1) (listed.push false) a w := by
  have lastStep : ∀ (fuel : Nat) (listed : Array Bool) (a : Act) (w : World), listed.size = ops.size → AllOn ops.size listed → Q' .normal a w → wpAnyIn F n P md (ops.push oz) Q (fuel + 1) (listed.push false) a w := by
    intro fuel listed a w hs hall hq
    have hmem : ops.size ∈ Region.ready md (ops.push oz) (listed.push false) := by
      rw [mem_ready]
      refine ⟨by rw [← hs]; simp [Array.getD], oz, by simp, fun e he hb => ?_⟩
      have := hz e he hb
      rw [getD_push_lt (by omega)]
      exact hall _ this
    refine ⟨fun h => (by rw [h] at hmem; cases hmem), fun j hj => ?_⟩
    have hje := ready_push_all hs hall j hj
    subst hje
    have hdone : Region.ready md (ops.push oz) ((listed.push false).setIfInBounds ops.size true) = [] := by
      refine List.eq_nil_iff_forall_not_mem.2 fun k hk => ?_
      rw [mem_ready] at hk
      obtain ⟨h0, o, ho, _⟩ := hk
      have hlt : k < ops.size + 1 := by have := (Array.getElem?_eq_some_iff.1 ho).1; simpa using this
      by_cases hk' : k = ops.size
      · subst hk'; simp [Array.getD, hs] at h0
      · have h1 : k < ops.size := by omega
        have h2 := hall k h1
        have h3 : k < listed.size := by omega
        simp [Array.getD, h3, Nat.lt_succ_of_lt h3, Ne.symm hk', Array.getElem_push_lt h3] at h0 h2
        rw [h0] at h2; cases h2
    unfold wpOpIn
    simp only [Array.getElem?_push_size]
    have hw : Region.wanted oz (yielded (ops.push oz) a.tmps) = true := by simp [Region.wanted, hgz]
    rw [if_pos hw]
    refine Oper.wpIn_mono (fun a' w' h' => ?_) (hN a w hq)
    cases fuel with
    | zero => exact ⟨hdone, h'⟩
    | succ fuel => exact ⟨fun _ => h', fun k hk => by rw [hdone] at hk; cases hk⟩
  intro fuel
  induction fuel with
  | zero =>
    intro listed a w hs _ h
    exact lastStep 0 listed a w hs (all_of_none hfwd hs h.1) h.2
  | succ fuel ih =>
    intro listed a w hs hcl h
    by_cases hall : AllOn ops.size listed
    · refine lastStep (fuel + 1) listed a w hs hall (h.1 (List.eq_nil_iff_forall_not_mem.2 fun k hk => ?_))
      rw [mem_ready] at hk
      obtain ⟨h0, o, ho, _⟩ := hk
      have h1 := (Array.getElem?_eq_some_iff.1 ho).1
      have h2 := hall k h1
      have h3 : k < listed.size := by omega
      simp [Array.getD, h3] at h0 h2
      rw [h0] at h2; cases h2
    · refine ⟨fun hr => ?_, fun j hj => ?_⟩
      · have : Region.ready md ops listed = [] := List.eq_nil_iff_forall_not_mem.2 fun k hk => by
          have hk2 : k ∈ Region.ready md (ops.push oz) (listed.push false) := by
            rw [mem_ready] at hk ⊢
            obtain ⟨h0, o, ho, hh⟩ := hk
            have h1 := (Array.getElem?_eq_some_iff.1 ho).1
            refine ⟨by rw [getD_push_lt (by omega)]; exact h0, o, by rw [Array.getElem?_push_lt h1, ← Array.getElem?_eq_getElem h1]; exact ho, fun e he hb => ?_⟩
            rw [getD_push_lt (by have := hfwd k o ho e he hb; omega)]
            exact hh e he hb
          rw [hr] at hk2; cases hk2
        exact absurd (all_of_none hfwd hs this) hall
      · have hj' := ready_push_some hz hz2 hfwd hs hcl hall j hj
        have h1 := h.2 j hj'
        have hlt : j < ops.size := by
          rw [mem_ready] at hj'
          obtain ⟨_, o, ho, _⟩ := hj'
          exact (Array.getElem?_eq_some_iff.1 ho).1
        unfold wpOpIn at h1 ⊢
        rw [Array.getElem?_push_lt hlt]
        rw [Array.getElem?_eq_getElem hlt] at h1
        simp only at h1 ⊢
        have hg := hgd j _ (Array.getElem?_eq_getElem hlt)
        have hw1 : Region.wanted ops[j] (yielded (ops.push oz) a.tmps) = true := by simp [Region.wanted, hg]
        have hw2 : Region.wanted ops[j] (yielded ops a.tmps) = true := by simp [Region.wanted, hg]
        rw [if_pos hw1]
        rw [if_pos hw2] at h1
        refine wpIn_turn (fun a' w' h' => ?_) hP hL h1
        rw [set_push (by omega)]
        exact ih _ _ _ (by simp [hs]) (hcl.set hj') h'
/-- What the others must leave: the last operation's walk; no panic. -/
def ThenIn (n : Nat) (P : Program) (ops : Array Oper) (Q : Exit → Act → World → Prop) (oz : Oper) : Exit → Act → World → Prop
  | .normal, a, w => wpListIn Fence.wide n P ops Q [oz] a w
  | .panic _, _, _ => False
  | e, a, w => Q e a w
/-- A region that draws its order, within a round: all but the last operation only read, the last one waits for all. -/
theorem quiet_last_round {id : Nat} {a : Act} {w : World} {l : List Oper} {l0 : Nat} (k : Nat) (hm : P.follows .mixedOrders = true) (hl : l.drop k = [oz]) (hB : splitB (l.take k).toArray oz = true) (hX : Region.lexB .any (l.take k).toArray = true) (hd : noDefer l = true)
    (h : wpQuietIn Fence.wide n P (l.take k).toArray (fun w' => ∃ n, w' = w.drewN n) (fun a' => ∀ w', (∃ n, w' = w.drewN n) → wpListIn Fence.wide n P l.toArray Q [oz] a' w') (l.take k) a) : (Code.region id l.toArray true).wpIn (Fence.wide.inRound l0) n P Q a w := by
  have he : l.toArray = (l.take k).toArray.push oz := by
    rw [List.push_toArray, ← hl, List.take_append_drop]
  have hX2 := hX
  simp only [Region.lexB, Bool.and_eq_true] at hX2
  have hq := wpAnyQIn_lex (F := Fence.wide) (n := n) (C := fun w' => ∃ n, w' = w.drewN n) (md := .any) hX2.1 (l.take k).toArray.toList 0 (Array.replicate (l.take k).toArray.size false) a (by simp) (by simpa using hX2.2) (show wpQuietIn Fence.wide n P (l.take k).toArray (fun w' => ∃ n, w' = w.drewN n) (fun a' => ∀ w', (∃ n, w' = w.drewN n) → wpListIn Fence.wide n P l.toArray Q [oz] a' w') (l.take k).toArray.toList a from h)
  have hq2 := wpAnyIn_of_quiet (C := fun w' => ∃ n, w' = w.drewN n) (Q := fun a' => ∀ w', (∃ n, w' = w.drewN n) → wpListIn Fence.wide n P l.toArray Q [oz] a' w') (Q' := ThenIn n P l.toArray Q oz) rfl (fun a w' hw' h => h w' hw') _ _ _ ({ w with drawn := w.drawn + 1 } : World) ⟨1, rfl⟩ hq
  have hB0 := hB
  simp only [splitB, Bool.and_eq_true, List.all_eq_true, List.any_eq_true, List.mem_range, decide_eq_true_eq, Option.isNone_iff_eq_none, Array.mem_toList_iff] at hB
  obtain ⟨⟨⟨⟨h1, h2⟩, h3⟩, h4⟩, h5⟩ := hB
  have hlast := wpAnyIn_last (F := Fence.wide) (n := n) (P := P) (md := .any) (ops := (l.take k).toArray) (oz := oz) (Q := Q) (Q' := ThenIn n P l.toArray Q oz) (fun i o ho => h1 o (by simpa using Array.mem_of_getElem? ho)) h2 (fun e he _ => h3 e he)
    (fun i hi => by
      obtain ⟨e, he, hb, hon⟩ := h4 i hi
      refine ⟨e, he, hb, ?_⟩
      simp only [Bool.or_eq_true, beq_iff_eq] at hon
      refine hon.imp (fun h => h) fun hx => ?_
      split at hx
      · rename_i o ho
        simp only [List.any_eq_true, Bool.and_eq_true, beq_iff_eq, Array.mem_toList_iff] at hx
        obtain ⟨f, hf, hfb, hfo⟩ := hx
        exact ⟨o, ho, f, hf, hfb, hfo⟩
      · cases hx)
    (fun i o ho e he _ => by
      have := h5 i (Array.getElem?_eq_some_iff.1 ho).1
      rw [ho] at this
      simp only [List.all_eq_true, Array.mem_toList_iff, decide_eq_true_eq] at this
      exact this e he) (fun _ _ _ h => h.elim) (fun ⟨a, w, h⟩ => ⟨a, w, h⟩) (fun a w hq => by
        have hq' : wpListIn Fence.wide n P l.toArray Q [oz] a w := hq
        unfold wpListIn at hq'
        have hw : Region.wanted oz (yielded l.toArray a.tmps) = true := by simp [Region.wanted, h2]
        simpa [hw, wpListIn] using hq')
    (l.take k).toArray.size (Array.replicate (l.take k).toArray.size false) a { w with drawn := w.drawn + 1 } (by simp) (fun j o _ hj => by simp [Array.getD] at hj) (by simpa using hq2)
  refine wpIn_region_any hm (any_round rfl hd l0 _ _ _ _ ?_)
  have hr : Array.replicate l.toArray.size false = (Array.replicate (l.take k).toArray.size false).push false := by
    rw [he, Array.size_push]
    exact Array.replicate_succ
  rw [hr, he, Array.size_push]
  exact hlast
end
/-- Nothing but the normal way. -/
def Only (Q : Exit → Act → World → Prop) : Exit → Act → World → Prop
  | .normal, a, w => Q .normal a w
  | _, _, _ => False
theorem any_plain {n : Nat} {l : List Oper} : ∀ (fuel : Nat) (listed : Array Bool) (a : Act) (w : World),
    wpAny P md l.toArray (Only Q) fuel listed a w → wpAnyIn Fence.wide n P md l.toArray Q fuel listed a w := by
  intro fuel
  induction fuel with
  | zero => exact fun _ _ _ h => h
  | succ fuel ih =>
    rintro listed a w ⟨h1, h2⟩
    refine ⟨h1, fun i hi => ?_⟩
    have h := h2 i hi
    unfold wpOp at h
    unfold wpOpIn
    split at h
    · rename_i ho
      simp only [ho]
      exact ih _ _ _ h
    · rename_i o ho
      simp only [ho]
      split at h
      · rename_i hw
        rw [if_pos hw]
        rcases h with h | ⟨_, a', w', h⟩
        · refine ⟨fun _ _ => trivial, ?_⟩
          show o.uponIn Fence.wide n P a _ Q ((execOp a.eval o).run P w)
          unfold Oper.wp at h
          generalize (execOp a.eval o).run P w = r at h
          cases r with
          | ok m w' =>
            cases m <;> simp only [Oper.upon, Oper.uponIn] at h ⊢
            case value u => exact ih _ _ _ h
            case skip => exact ih _ _ _ h
            case defer d => exact ih _ _ _ h
            case enter f args =>
              refine ⟨fun hx => (by cases hx), callsIn_wide.2 (Calls.mono h fun e w'' he => ?_)⟩
              cases e with
              | returned u => exact ih _ _ _ he
              | panicked c => exact he.elim
              | outgrown => obtain ⟨_, _, hx⟩ := he; exact hx.elim
            case row row args =>
              refine ⟨fun hx => (by cases hx), fun c cs _ => ?_⟩
              obtain ⟨v, w'', hr, hs⟩ := h c cs
              exact ⟨v, w'', ih _ _ _ hr, stepsIn_wide.2 hs⟩
          | halt x w' =>
            cases x <;> simp only [Oper.upon, Oper.uponIn] at h ⊢
            case panic u => exact h.elim
        · exact h.elim
      · rename_i hw
        rw [if_neg hw]
        exact ⟨fun _ _ => trivial, ih _ _ _ h⟩
/-- The operations yield one after the other, in every world that meets S. -/
def wpHeld (P : Program) (ops : Array Oper) (S : World → Prop) (L : Act → Prop) : List Oper → Act → Prop
  | [], a => L a
  | o :: rest, a => ∃ v, YieldsIf P ops S o v a ∧ wpHeld P ops S L rest (a.put o.dst v)
/-- The first m operations from k on may be taken one after the other. -/
def preB (md : Region.Mode) (ops : Array Oper) : Nat → Nat → Array Bool → Bool
  | 0, _, _ => true
  | m + 1, k, listed => (Region.ready md ops listed).contains k && Region.free md ops listed k && preB md ops m (k + 1) (listed.setIfInBounds k true)
def setAll : Nat → Nat → Array Bool → Array Bool
  | 0, _, listed => listed
  | m + 1, k, listed => setAll m (k + 1) (listed.setIfInBounds k true)
theorem held_lex {S : World → Prop} (hsel : Region.noSelect ops = true) {g : Nat} {w : World} (hS : S w) : ∀ (l : List Oper) (k : Nat) (listed : Array Bool) (a : Act), (∀ j, j < l.length → l[j]? = ops[k + j]?) → preB md ops l.length k listed = true →
    wpHeld P ops S (fun a' => wpAnyH P md ops (Only Q) S g (setAll l.length k listed) a' w) l a → wpAnyH P md ops (Only Q) S (g + l.length) listed a w
  | [], _, _, _, _, _, h => h
  | o :: l, k, listed, a, hl, hB, h => by
    have h0 : ops[k]? = some o := by simpa using (hl 0 (by simp)).symm
    simp only [List.length_cons, preB, Bool.and_eq_true] at hB
    obtain ⟨⟨hr, hf⟩, hB'⟩ := hB
    obtain ⟨v, hy, hrest⟩ := h
    have hQ : ∀ c a w, Only Q (.panic c) (Act.put a o.dst v) w → Only Q (.panic c) a w := fun _ _ _ h => h
    exact wpAnyH_take h0 hsel hf hr hQ hy hS (held_lex hsel hS l (k + 1) _ _ (fun j hj => by have := hl (j + 1) (by simp; omega); simpa [Nat.add_assoc, Nat.add_comm 1 j] using this) hB' hrest)
def ThenH (P : Program) (md : Region.Mode) (ops : Array Oper) (Q : Exit → Act → World → Prop) (S : World → Prop) (fuel : Nat) (listed : Array Bool) : Exit → Act → World → Prop
  | .normal, a, w => S w ∧ wpAnyH P md ops Q S fuel listed a w
  | _, _, _ => False
/-- One operation alone may come up. -/
theorem held_one {S : World → Prop} {i : Nat} {o : Oper} {fuel : Nat} {listed : Array Bool} {a : Act} {w : World} (hr : Region.ready md ops listed = [i]) (ho : ops[i]? = some o) (hg : o.guard = none)
    (h : wpList P ops (ThenH P md ops (Only Q) S fuel (listed.setIfInBounds i true)) [o] a w) : wpAnyH P md ops (Only Q) S (fuel + 1) listed a w := by
  refine wpAnyH_all hr (by simp) fun j hj => ?_
  obtain rfl : j = i := by simpa using hj
  unfold wpOp
  rw [ho]
  have hw : Region.wanted o (yielded ops a.tmps) = true := by simp [Region.wanted, hg]
  simp only [hw, if_true]
  unfold wpList at h
  rw [if_pos hw] at h
  rcases h with h | ⟨_, _, _, h⟩
  · left
    unfold Oper.wp at *
    generalize (execOp a.eval o).run P w = r at *
    cases r with
    | ok m w' =>
      cases m <;> simp only [Oper.upon] at h ⊢
      case value u => exact h
      case skip => exact h
      case defer d => exact h
      case enter f args =>
        refine Calls.mono h fun e w'' he => ?_
        cases e with
        | returned u => exact he
        | panicked c => exact he.elim
        | outgrown => obtain ⟨_, _, hx⟩ := he; exact hx.elim
      case row row args => exact h
    | halt x w' =>
      cases x <;> simp only [Oper.upon] at h ⊢
      case panic u => exact h.elim
  · exact h.elim
/-- A region that draws its order, within a round: by the plain walk under a condition on the world. -/
theorem held_round {n : Nat} {id : Nat} {a : Act} {w : World} {l : List Oper} {l0 : Nat} (S : World → Prop) (hm : P.follows .mixedOrders = true) (hd : noDefer l = true)
    (h : wpAnyH P .any l.toArray (Only Q) S l.toArray.size (Array.replicate l.toArray.size false) a { w with drawn := w.drawn + 1 }) : (Code.region id l.toArray true).wpIn (Fence.wide.inRound l0) n P Q a w :=
  wpIn_region_any hm (any_round rfl hd l0 _ _ _ _ (any_plain _ _ _ _ (wpAny_of_held _ _ _ _ h)))
/-- The same where the first k operations yield one after the other in every world that meets S. -/
theorem held_round_lex {n : Nat} {id : Nat} {a : Act} {w : World} {l : List Oper} {l0 : Nat} (k : Nat) (S : World → Prop) (hm : P.follows .mixedOrders = true) (hd : noDefer l = true) (hsel : Region.noSelect l.toArray = true) (hk : (l.take k).length = k) (hB : preB .any l.toArray k 0 (Array.replicate l.toArray.size false) = true) (hS : S w.drew)
    (h : wpHeld P l.toArray S (fun a' => wpAnyH P .any l.toArray (Only Q) S (l.length - k) (setAll k 0 (Array.replicate l.toArray.size false)) a' w.drew) (l.take k) a) : (Code.region id l.toArray true).wpIn (Fence.wide.inRound l0) n P Q a w := by
  refine held_round S hm hd ?_
  have hk2 : k ≤ l.length := by rw [List.length_take] at hk; omega
  have := held_lex (P := P) (md := .any) (Q := Q) (S := S) hsel (g := l.length - k) hS (l.take k) 0 (Array.replicate l.toArray.size false) a (fun j hj => by
    rw [hk] at hj
    simp [hj]) (by rw [hk]; exact hB) (by rw [hk]; exact h)
  rw [hk, show l.length - k + k = l.toArray.size by simp; omega] at this
  exact this
end Go.Proofs.YtpehhgkghgbhiaaGreatDoor
