/- Walks: the program's limbs: Gcd. -/
import Derived.Test.YtikfgddgfddbaaaGreatDoorGc3
import Derived.Lib.JoinLaws
namespace Go.Proofs.YtikfgddgfddbaaaGreatDoor
open Go.RowKit
set_option linter.unusedVariables false

set_option maxHeartbeats 2000000 in
theorem l_Gcd (w : World) (v u : Value) (a b : Nat) (ha : IsN .u64 w v a) (hb : IsN .u64 w u b) (hla : (limbs a).length ≤ 1000000) (hlb : (limbs b).length ≤ 1000000) :
    Calls Tryz.prog 171 #[v, u] w fun e w' => RetN .u64 (Nat.gcd a b) e w' ∧ Below w.heap.size w w' := by
  have HA := hid ha; have HB := hid hb; have LA := hid hla; have LB := hid hlb
  clear ha hb hla hlb
  go_enter Tryz.func171, Tryz.ntmps171
  go_wp2_with fail
  go_loopw [0, 1, 5, 6] (fun x y q r wr => ∃ m n : Nat, Hid (IsN .u64 wr x m) ∧ Hid (IsN .u64 wr y n) ∧ Hid ((limbs m).length ≤ 1000000) ∧ Hid ((limbs n).length ≤ 1000000) ∧ Hid (Nat.gcd m n = Nat.gcd a b) ∧ Hid (Below w.heap.size w wr))
    (fun x y q r wr => numOf .u64 wr y)
  case atStart => exact ⟨a, b, HA, HB, LA, LB, rfl, Below.refl _ _⟩
  case round =>
    obtain ⟨m, n, hx, hy, hm, hn, hg, hB⟩ := hrel
    have hnum := hid (numOf_eq hy.out)
    obtain ⟨a1, c1, rfl, h1, h1', h1''⟩ := hx.out.openI
    obtain ⟨a2, c2, rfl, h2, h2', h2''⟩ := hy.out.openI
    clear h1'' h2''
    by_cases h0 : n = 0
    · subst h0
      have hl : (limbs 0).length = 0 := by rw [limbs_zero]; rfl
      rw [hl] at *
      clear hl
      go_wp2_with fail
      go_ret
      exact ⟨⟨_, rfl, by rw [← hg.out, Nat.gcd_zero_right]; exact hx.out⟩, hB.out⟩
    · have hpos : 0 < (limbs n).length := List.length_pos_iff.2 (fun e => h0 (limbs_nil.1 e))
      have q0 : decide ((0 : Int) < ((limbs n).length : Int)) = true := by simp; omega
      go_wp2_with fail
      refine (l_DivMod _ _ _ m n hx.out hy.out (by omega) hm.out).mono ?_
      rintro e w1 ⟨⟨v1, v2, rfl, hv1, hv2⟩, hb1⟩
      have V2 := hid hv2; have B1 := hid (bnext hB.out hb1); have Y1 := hid (hy.out.call hb1)
      have hlt := hid (Nat.mod_lt m (y := n) (by omega))
      have hll := hid (show (limbs (m % n)).length ≤ 1000000 from Nat.le_trans (limbs_length_mono (Nat.le_of_lt hlt.out)) hn.out)
      have hgg := hid (show Nat.gcd n (m % n) = Nat.gcd a b from by rw [← hg.out, Nat.gcd_comm m n, Nat.gcd_rec n m, Nat.gcd_comm]) 
      clear hv1 hv2 hb1
      go_wp2_with fail
      go_roundw
      case rel => exact ⟨n, m % n, Y1, V2, hn, hll, hgg, B1⟩
      case measure => rw [numOf_eq V2.out, hnum.out]; exact hlt.out
end Go.Proofs.YtikfgddgfddbaaaGreatDoor

/- Walks: the program's limbs: Zero, One. -/
namespace Go.Proofs.YtikfgddgfddbaaaGreatDoor
open Go.RowKit
set_option linter.unusedVariables false

def isZ (n : Nat) : Bool := decide (n = 0)
def isO (n : Nat) : Bool := decide (n = 1)

theorem isZ_iff {n : Nat} : isZ n = true ↔ n = 0 := by simp [isZ]
theorem isO_iff {n : Nat} : isO n = true ↔ n = 1 := by simp [isO]

theorem limbs_len_zero {n : Nat} : (limbs n).length = 0 ↔ n = 0 := by
  rw [List.length_eq_zero_iff]; exact limbs_nil

theorem l_Zero (w : World) (v : Value) (n : Nat) (h : IsN .u64 w v n) : Calls Tryz.prog 157 #[v] w fun e w' => e = .returned (.bool (isZ n)) ∧ w = w' := by
  obtain ⟨a, c, rfl, h1, h2, -⟩ := h.openI
  obtain ⟨L, hL⟩ : ∃ L, (limbs n).length = L := ⟨_, rfl⟩
  have hz : isZ n = ((L : Int) == 0) := by
    rw [Bool.eq_iff_iff, isZ_iff, beq_iff_eq]
    rw [← limbs_len_zero, hL]; omega
  have HZ := hid hz
  rw [hL]
  clear h hL hz h1
  go_enter Tryz.func157, Tryz.ntmps157
  go_wp2_with fail
  go_ret
  exact ⟨by rw [HZ.out]; first | rfl | simp, rfl⟩

theorem l_One (w : World) (v : Value) (n : Nat) (h : IsN .u64 w v n) : Calls Tryz.prog 158 #[v] w fun e w' => e = .returned (.bool (isO n)) ∧ w = w' := by
  obtain ⟨a, c, rfl, h1, h2, h3⟩ := h.openI
  by_cases hl : (limbs n).length = 1
  · obtain ⟨x, hx⟩ : ∃ x, (limbs n)[0]? = some x := ⟨_, List.getElem?_eq_getElem (by omega)⟩
    obtain ⟨g, o, rfl, hg, hc⟩ := h3 0 x hx
    rw [Nat.add_zero] at hc
    have hn : n = x := by
      have h4 : limbs n = [x] := by
        apply List.ext_getElem?
        intro i
        rcases i with _ | i
        · exact hx
        · rw [List.getElem?_eq_none (by omega)]; simp
      have := val_limbs n
      rw [h4] at this
      simpa [val_cons] using this.symm
    subst hn
    have HL := hid hl
    rw [hl]
    clear hl hx h3 h h1
    by_cases h1 : n = 1
    · subst h1
      go_enter Tryz.func158, Tryz.ntmps158
      go_wp2_with fail
      go_ret
      exact ⟨rfl, rfl⟩
    · have q1 : ((n : Int) == 1) = false := beq_eq_false_iff_ne.2 (by omega)
      have H1 := hid (show isO n = false by simp [isO, h1])
      clear h1
      go_enter Tryz.func158, Tryz.ntmps158
      go_wp2_with fail
      go_ret
      exact ⟨ret_bool (by rw [H1.out]), rfl⟩
  · obtain ⟨L, hL⟩ : ∃ L, (limbs n).length = L := ⟨_, rfl⟩
    have hn : isO n = false := by
      refine Bool.eq_false_iff.2 fun e => hl ?_
      rw [isO_iff.1 e, limbs_one]; rfl
    rw [hL] at hl ⊢
    have q1 : ((L : Int) == 1) = false := beq_eq_false_iff_ne.2 (by omega)
    have H1 := hid hn
    clear hl hn hL h h3 h1
    go_enter Tryz.func158, Tryz.ntmps158
    go_wp2_with fail
    go_ret
    exact ⟨ret_bool (by rw [H1.out]), rfl⟩
end Go.Proofs.YtikfgddgfddbaaaGreatDoor

/- Walks: the program's limbs: Parse. -/
namespace Go.Proofs.YtikfgddgfddbaaaGreatDoor
open Go.RowKit Go.Shelf Go.Lib
set_option linter.unusedVariables false

theorem extract_list (s : ByteArray) (a e : Nat) : (s.extract a e).data.toList = (s.data.toList.drop a).take (e - a) := by
  rw [ByteArray.data_extract, Array.toList_extract]

theorem parse_digs : ∀ (l : List UInt8) (acc : Nat), allDig l → 10 ^ l.length * (acc + 1) ≤ 10 ^ 9 → parseUintM 18446744073709551615 acc l = .ok (10 ^ l.length * acc + dv l)
  | [], acc, _, _ => by simp [parseUintM]
  | c :: r, acc, hd, hb => by
    have hc := isDig_iff.1 (hd c (by simp))
    have hr : allDig r := fun b hb => hd b (by simp [hb])
    rw [List.length_cons, Nat.pow_succ] at hb
    have hp : 0 < 10 ^ r.length := Nat.pow_pos (by omega)
    have h2 : 10 ^ r.length * (acc * 10 + (c.toNat - 48) + 1) ≤ 10 ^ 9 := by
      refine Nat.le_trans (Nat.mul_le_mul_left _ (show _ ≤ 10 * (acc + 1) by omega)) ?_
      rw [← Nat.mul_assoc]
      exact hb
    have ha : acc * 10 + (c.toNat - 48) + 1 ≤ 10 ^ 9 := Nat.le_trans (Nat.le_mul_of_pos_left _ hp) h2
    rw [parseUintM, if_pos hc, if_neg (by omega), if_neg (by omega), parse_digs r _ hr h2]
    have e : dv (c :: r) = 10 ^ r.length * (c.toNat - 48) + dv r := by
      rw [show c :: r = [c] ++ r from rfl, dv_append]
      simp [dv]
    rw [e, List.length_cons, Nat.pow_succ]
    congr 1
    rw [Nat.mul_add, Nat.mul_comm acc 10, ← Nat.mul_assoc]
    omega

theorem parse_chunk {l : List UInt8} (hd : allDig l) (h0 : l ≠ []) (h9 : l.length ≤ 9) : parseUintB 64 l = .ok (dv l) := by
  rw [parseUintB, if_neg h0]
  have h := parse_digs l 0 hd (by simpa using Nat.pow_le_pow_right (by omega) h9)
  simpa using h

theorem list_size (s : ByteArray) : s.data.toList.length = s.size := Array.length_toList

theorem par_call (s : ByteArray) (hmax : s.size ≤ 9223372036854775806) (u : Nat) (h : Lib.parseUintB 64 s.data.toList = .ok u) (w : World) :
    Calls Tryz.prog 135 #[.string s, .int .i64 10, .int .i64 64] w fun e w' => e = .returned (.tuple #[.int .u64 u, .nilIface]) ∧ Below w.heap.size w w' := by
  refine (Tryz.strconv_ParseUint s hmax u h w).mono ?_
  rintro e w' ⟨rfl, rfl | rfl⟩
  · exact ⟨rfl, Below.refl _ _⟩
  · exact ⟨rfl, Lib.bytesWorld_below _ _ _⟩

set_option maxRecDepth 100000 in
set_option maxHeartbeats 400000 in
theorem l_Parse (w : World) (s : ByteArray) (hd : allDig s.data.toList) (hs : s.size ≤ 1000000) :
    Calls Tryz.prog 94 #[.string s] w fun e w' => RetN .u64 (dv s.data.toList) e w' ∧ Below w.heap.size w w' := by
  obtain ⟨i0, hi, hz0, hz1, hz2⟩ := info_parts info_u64
  have HD := hid hd
  clear hd
  go_enter Tryz.func94, Tryz.ntmps94
  go_wp2_with fail
  go_loopw [3, 4, 5, 6] (fun o q x5 x6 wr => ∃ (l : List Nat) (t : Int), q = .int .i64 t ∧ t ≤ s.size ∧ -9 ≤ t ∧ l.length ≤ s.size - t.toNat ∧ Hid (ReadI s.data.toList t.toNat l) ∧ Hid (wr.ownsRow w.heap.size 112 1 o l.length (ints .u64 l)) ∧ Hid (Below w.heap.size w wr)) (fun _ q _ _ _ => (RowKit.intOf q).toNat)
  case atStart => exact ⟨[], _, rfl, by omega, by omega, by simp, ReadI.start _, World.ownsRow_nil _ _ _ _, Below.refl _ _⟩
  case round =>
    obtain ⟨l, t, rfl, hts, ht9, hl, hR, hO, hB⟩ := hrel
    by_cases h0 : t ≤ 0
    · have q0 : decide ((0 : Int) < t) = false := by simp; omega
      have e0 : t.toNat = 0 := by omega
      have hR2 := hR.out
      rw [e0] at hR2
      obtain ⟨ao, co, rfl⟩ := owns_ex hO.out
      have hrow : Row wr (.slice ao l.length co) (ints .u64 l) := Row.of_owns hO.out
      have hdone := hR2.done
      have hsm := hR2.sm
      clear hR2
      go_wp2_with (first
        | (go_at_call 136; refine (l_trim wr _ l hsm hrow).mono ?_; rintro e w' ⟨⟨v', rfl, hv'⟩, rfl⟩)
        | fail)
      go_ret
      refine ⟨⟨_, rfl, ?_⟩, hB.out⟩
      rw [← hdone]
      exact hv'
    · obtain ⟨e, he⟩ : ∃ e : Nat, t = e := ⟨t.toNat, by omega⟩
      subst he
      rw [Int.toNat_natCast] at hl hR
      have q0 : decide ((0 : Int) < (e : Int)) = true := by simp; omega
      obtain ⟨a, ha⟩ : ∃ a : Nat, a = e - 9 := ⟨_, rfl⟩
      have q1 : IntKind.i64.wrap ((e : Int) - 9) = (e : Int) - 9 := IntWalk.i64_in _ ⟨by omega, by omega⟩
      have q2 : max (0 : Int) ((e : Int) - 9) = (a : Int) := by omega
      have hle : ((s.extract a e).data.toList).length = e - a := by
        rw [extract_list, List.length_take, List.length_drop]
        have := list_size s
        omega
      have hchunk := parse_chunk (l := (s.extract a e).data.toList) (by rw [extract_list]; exact (HD.out.drop a).take _) (fun e0 => by rw [e0] at hle; simp at hle; omega) (by omega)
      have hlt : dv (s.extract a e).data.toList < 1000000000 := by rw [extract_list]; exact chunk_lt HD.out (by omega)
      have hsz : (s.extract a e).size ≤ 9223372036854775806 := by
        have := list_size (s.extract a e)
        omega
      obtain ⟨z, hz⟩ : ∃ z, dv (s.extract a e).data.toList = z := ⟨_, rfl⟩
      rw [hz] at hchunk hlt
      have hnext := hR.out.next HD.out
      rw [← ha, ← extract_list, hz] at hnext
      have HN := hid hnext; have HC := hid hchunk; have HS := hid hsz; have HA := hid ha; have HZ := hid hz
      clear hnext hchunk hsz ha hz hle hR
      obtain ⟨ao, co, rfl⟩ := owns_ex hO.out
      go_wp2_with (first
        | (go_at_call 135; refine (par_call _ HS.out z HC.out _).mono ?_; rintro e' W1 ⟨rfl, hb1⟩
           have HO1 := hid (owns_call hO.out hb1)
           have HB1 : Hid (Below w.heap.size w W1) := bnext hB.out (hb1.mono (Nat.le_refl _))
           clear hb1)
        | (at_builtin; refine wpList_append_own _ rfl _ _ 100 rfl w.heap.size 112 i0 (.int .u64 0) 1 8 Tryz.underlying100 hi hz0 hz1 hz2 rfl (by decide) _ l.length _ rfl (HO1.out.alloc _) ⟨W1.heap.size, 0, none⟩ 1 1 [.int .u64 (z : Int)] rfl rfl (cell_one_new W1 (.int .u64 (z : Int)) 112) (by simp [Value.oneCell']) (by unfold maxLen; omega) (by omega) (by have := HB1.out.size; simp; omega) ?_; intro v' w3 hown3 hgrow3 _; have HO3 := hid hown3; have HG3 := hid hgrow3; clear hown3 hgrow3)
        | fail)
      obtain ⟨n1, n2⟩ := own_next (z := z) HO1.out HB1.out HO3.out HG3.out
      have et : ((e : Int) - 9).toNat = a := by have := HA.out; omega
      go_roundw
      case rel => exact ⟨l ++ [z], _, rfl, by omega, by omega, by rw [et]; simp only [List.length_append, List.length_singleton]; have := HA.out; omega, by rw [et]; exact HN, n1, n2⟩
      case measure => simp [RowKit.intOf]; omega
end Go.Proofs.YtikfgddgfddbaaaGreatDoor

/- Walks: the program's texts of numbers: frac.Parse. -/
namespace Go.Proofs.YtikfgddgfddbaaaGreatDoor
open Go.RowKit Go.Shelf
set_option linter.unusedVariables false

/-- What the library gives for a text, under names. -/
structure Cuts (s W B D : ByteArray) (S M I fb : Bool) : Prop where
  cut : ∀ w, Lay w → Calls Tryz.prog 91 #[.string s, .string ⟨#[47]⟩] w fun e w' => e = .returned (.tuple #[.string W, .string B, .bool S]) ∧ Below w.heap.size w w'
  int : ∀ w, Calls Tryz.prog 129 #[.string W] w fun e w' => e = .returned (.tuple #[.bool M, .string D, .bool I]) ∧ Below w.heap.size w w'
  form : ∀ w, Calls Tryz.prog 134 #[.string B] w fun e w' => e = .returned (.bool fb) ∧ Below w.heap.size w w'

theorem cuts_of (s : ByteArray) (hs : s.size ≤ 1000000) : Cuts s (cW s) (cB s) (iD (cW s)) (cS s) (iM (cW s)) (iB (cW s)) (fB (cB s)) where
  cut := fun w hL => l_cut w s (by omega) hL
  int := fun w => f_Integer w (cW s) (by have := cW_size s; omega)
  form := fun w => l_form w (cB s) (by have := cB_size s; omega)

def fzero : Value := .agg #[.bool false, .slice none 0 0, .slice none 0 0]

set_option maxRecDepth 100000 in
set_option maxHeartbeats 4000000 in
theorem fp_bad (w : World) (s W B D : ByteArray) (S M I fb : Bool) (HL : Hid (Lay w)) (HC : Cuts s W B D S M I fb)
    (h : (I && (!S || (decide (D ≠ ⟨#[48]⟩) && fb && decide (B ≠ ⟨#[48]⟩) && decide (B ≠ ⟨#[49]⟩)))) = false) :
    Calls Tryz.prog 132 #[.string s] w fun e w' => e = .returned (.tuple #[.agg #[.bool false, .slice none 0 0, .slice none 0 0], .int .i64 3]) ∧ Below w.heap.size w w' := by
  have key : (I = false) ∨ (I = true ∧ S = true ∧ (D = ⟨#[48]⟩ ∨ (¬ D = ⟨#[48]⟩ ∧ (fb = false ∨ (fb = true ∧ (B = ⟨#[48]⟩ ∨ (¬ B = ⟨#[48]⟩ ∧ B = ⟨#[49]⟩))))))) := by
    by_cases h1 : D = ⟨#[48]⟩ <;> by_cases h2 : B = ⟨#[48]⟩ <;> by_cases h3 : B = ⟨#[49]⟩ <;> cases I <;> cases S <;> cases fb <;> simp [h1, h2, h3] at h ⊢
  have HK := hid HC
  clear HC h
  have t0 := hid (Blk.new w #[.bool false, .slice none 0 0, .slice none 0 0] 110)
  have t1 := hid ((Below.refl w.heap.size w).alloc (Nat.le_refl _) (.cells #[.bool false, .slice none 0 0, .slice none 0 0] 110))
  have t2 := hid (HL.out.call t1.out)
  rcases key with rfl | ⟨rfl, rfl, rfl | ⟨h1, rfl | ⟨rfl, rfl | ⟨h2, rfl⟩⟩⟩⟩
  · cases S
    all_goals
      go_enter Tryz.func132, Tryz.ntmps132
      go_wp2_with (first
        | (go_at_call 91; refine (HK.out.cut _ t2.out).mono ?_; rintro e w1 ⟨rfl, hb1⟩
           have x1 := hid (t0.out.call hb1)
           have y1 := hid (bnext t1.out hb1)
           clear hb1)
        | (go_at_call 129; refine (HK.out.int _).mono ?_; rintro e w2 ⟨rfl, hb2⟩
           have x2 := hid (x1.out.call hb2)
           have y2 := hid (bnext y1.out hb2)
           clear hb2
           have d0 := x2.out.cell 0
           have d1 := x2.out.cell 1
           have d2 := x2.out.cell 2
           have e0 := x2.out.free 0
           have e1 := x2.out.free 1
           have e2 := x2.out.free 2
           simp at d0 d1 d2)
        | (go_at_call 134; refine (HK.out.form _).mono ?_; rintro e w3 ⟨rfl, hb3⟩
           have x3 := hid (x2.out.call hb3)
           have y3 := hid (bnext y2.out hb3)
           clear hb3 d0 d1 d2 e0 e1 e2
           have d0 := x3.out.cell 0
           have d1 := x3.out.cell 1
           have d2 := x3.out.cell 2
           have e0 := x3.out.free 0
           have e1 := x3.out.free 1
           have e2 := x3.out.free 2
           simp at d0 d1 d2)
        | fail)
      first
        | (obtain ⟨s1, s2⟩ := set3 x3.out false none none 0 0 0 0
           have f0 := s2.cell 0
           have f1 := s2.cell 1
           have f2 := s2.cell 2
           simp at f0 f1 f2
           refine bodyPost_ret (v := .tuple #[.agg #[.bool false, .slice none 0 0, .slice none 0 0], .int .i64 3]) (by simp [results, Tryz.results132, go_sem, f0, f1, f2]) rfl ⟨rfl, ?_⟩
           exact ((y3.out.setCell (Nat.le_refl _) _).setCell (Nat.le_refl _) _).setCell (Nat.le_refl _) _)
        | (obtain ⟨s1, s2⟩ := set3 x2.out false none none 0 0 0 0
           have f0 := s2.cell 0
           have f1 := s2.cell 1
           have f2 := s2.cell 2
           simp at f0 f1 f2
           refine bodyPost_ret (v := .tuple #[.agg #[.bool false, .slice none 0 0, .slice none 0 0], .int .i64 3]) (by simp [results, Tryz.results132, go_sem, f0, f1, f2]) rfl ⟨rfl, ?_⟩
           exact ((y2.out.setCell (Nat.le_refl _) _).setCell (Nat.le_refl _) _).setCell (Nat.le_refl _) _)
  all_goals (try have i1 := ne_lit (l := [48]) h1)
  all_goals (try have i2 := ne_lit (l := [48]) h2)
  all_goals
    go_enter Tryz.func132, Tryz.ntmps132
    go_wp2_with (first
      | (go_at_call 91; refine (HK.out.cut _ t2.out).mono ?_; rintro e w1 ⟨rfl, hb1⟩
         have x1 := hid (t0.out.call hb1)
         have y1 := hid (bnext t1.out hb1)
         clear hb1)
      | (go_at_call 129; refine (HK.out.int _).mono ?_; rintro e w2 ⟨rfl, hb2⟩
         have x2 := hid (x1.out.call hb2)
         have y2 := hid (bnext y1.out hb2)
         clear hb2
         have d0 := x2.out.cell 0
         have d1 := x2.out.cell 1
         have d2 := x2.out.cell 2
         have e0 := x2.out.free 0
         have e1 := x2.out.free 1
         have e2 := x2.out.free 2
         simp at d0 d1 d2)
      | (go_at_call 134; refine (HK.out.form _).mono ?_; rintro e w3 ⟨rfl, hb3⟩
         have x3 := hid (x2.out.call hb3)
         have y3 := hid (bnext y2.out hb3)
         clear hb3 d0 d1 d2 e0 e1 e2
         have d0 := x3.out.cell 0
         have d1 := x3.out.cell 1
         have d2 := x3.out.cell 2
         have e0 := x3.out.free 0
         have e1 := x3.out.free 1
         have e2 := x3.out.free 2
         simp at d0 d1 d2)
      | fail)
    first
      | (obtain ⟨s1, s2⟩ := set3 x3.out false none none 0 0 0 0
         have f0 := s2.cell 0
         have f1 := s2.cell 1
         have f2 := s2.cell 2
         simp at f0 f1 f2
         refine bodyPost_ret (v := .tuple #[.agg #[.bool false, .slice none 0 0, .slice none 0 0], .int .i64 3]) (by simp [results, Tryz.results132, go_sem, f0, f1, f2]) rfl ⟨rfl, ?_⟩
         exact ((y3.out.setCell (Nat.le_refl _) _).setCell (Nat.le_refl _) _).setCell (Nat.le_refl _) _)
      | (obtain ⟨s1, s2⟩ := set3 x2.out false none none 0 0 0 0
         have f0 := s2.cell 0
         have f1 := s2.cell 1
         have f2 := s2.cell 2
         simp at f0 f1 f2
         refine bodyPost_ret (v := .tuple #[.agg #[.bool false, .slice none 0 0, .slice none 0 0], .int .i64 3]) (by simp [results, Tryz.results132, go_sem, f0, f1, f2]) rfl ⟨rfl, ?_⟩
         exact ((y2.out.setCell (Nat.le_refl _) _).setCell (Nat.le_refl _) _).setCell (Nat.le_refl _) _)

set_option maxRecDepth 100000 in
set_option maxHeartbeats 4000000 in
theorem fp_long (w : World) (s W B D : ByteArray) (S M fb : Bool) (HL : Hid (Lay w)) (HC : Cuts s W B D S M true fb)
    (h : S = false ∨ (S = true ∧ ¬ D = ⟨#[48]⟩ ∧ ¬ B = ⟨#[48]⟩ ∧ ¬ B = ⟨#[49]⟩ ∧ fb = true)) (hl : 4000 < D.size ∨ (¬ 4000 < D.size ∧ S = true ∧ 4000 < B.size)) :
    Calls Tryz.prog 132 #[.string s] w fun e w' => e = .returned (.tuple #[.agg #[.bool false, .slice none 0 0, .slice none 0 0], .int .i64 5]) ∧ Below w.heap.size w w' := by
  have HK := hid HC
  clear HC
  have t0 := hid (Blk.new w #[.bool false, .slice none 0 0, .slice none 0 0] 110)
  have t1 := hid ((Below.refl w.heap.size w).alloc (Nat.le_refl _) (.cells #[.bool false, .slice none 0 0, .slice none 0 0] 110))
  have t2 := hid (HL.out.call t1.out)
  rcases h with rfl | ⟨rfl, h1, h2, h3, rfl⟩
  · have q0 : decide ((4000 : Int) < (D.size : Int)) = true := by
      rcases hl with hl | ⟨_, hl, _⟩
      · simp; omega
      · cases hl
    clear hl
    go_enter Tryz.func132, Tryz.ntmps132
    go_wp2_with (first
      | (go_at_call 91; refine (HK.out.cut _ t2.out).mono ?_; rintro e w1 ⟨rfl, hb1⟩
         have x1 := hid (t0.out.call hb1)
         have y1 := hid (bnext t1.out hb1)
         clear hb1)
      | (go_at_call 129; refine (HK.out.int _).mono ?_; rintro e w2 ⟨rfl, hb2⟩
         have x2 := hid (x1.out.call hb2)
         have y2 := hid (bnext y1.out hb2)
         clear hb2
         have d0 := x2.out.cell 0
         have d1 := x2.out.cell 1
         have d2 := x2.out.cell 2
         have e0 := x2.out.free 0
         have e1 := x2.out.free 1
         have e2 := x2.out.free 2
         simp at d0 d1 d2)
      | (go_at_call 134; refine (HK.out.form _).mono ?_; rintro e w3 ⟨rfl, hb3⟩
         have x3 := hid (x2.out.call hb3)
         have y3 := hid (bnext y2.out hb3)
         clear hb3 d0 d1 d2 e0 e1 e2
         have d0 := x3.out.cell 0
         have d1 := x3.out.cell 1
         have d2 := x3.out.cell 2
         have e0 := x3.out.free 0
         have e1 := x3.out.free 1
         have e2 := x3.out.free 2
         simp at d0 d1 d2)
      | fail)
    first
      | (obtain ⟨s1, s2⟩ := set3 x3.out false none none 0 0 0 0
         have f0 := s2.cell 0
         have f1 := s2.cell 1
         have f2 := s2.cell 2
         simp at f0 f1 f2
         refine bodyPost_ret (v := .tuple #[.agg #[.bool false, .slice none 0 0, .slice none 0 0], .int .i64 5]) (by simp [results, Tryz.results132, go_sem, f0, f1, f2]) rfl ⟨rfl, ?_⟩
         exact ((y3.out.setCell (Nat.le_refl _) _).setCell (Nat.le_refl _) _).setCell (Nat.le_refl _) _)
      | (obtain ⟨s1, s2⟩ := set3 x2.out false none none 0 0 0 0
         have f0 := s2.cell 0
         have f1 := s2.cell 1
         have f2 := s2.cell 2
         simp at f0 f1 f2
         refine bodyPost_ret (v := .tuple #[.agg #[.bool false, .slice none 0 0, .slice none 0 0], .int .i64 5]) (by simp [results, Tryz.results132, go_sem, f0, f1, f2]) rfl ⟨rfl, ?_⟩
         exact ((y2.out.setCell (Nat.le_refl _) _).setCell (Nat.le_refl _) _).setCell (Nat.le_refl _) _)
  · have i1 := ne_lit (l := [48]) h1
    have i2 := ne_lit (l := [48]) h2
    have i3 := ne_lit (l := [49]) h3
    rcases hl with hl | ⟨hl, -, hl2⟩
    · have q0 : decide ((4000 : Int) < (D.size : Int)) = true := by simp; omega
      clear hl
      go_enter Tryz.func132, Tryz.ntmps132
      go_wp2_with (first
        | (go_at_call 91; refine (HK.out.cut _ t2.out).mono ?_; rintro e w1 ⟨rfl, hb1⟩
           have x1 := hid (t0.out.call hb1)
           have y1 := hid (bnext t1.out hb1)
           clear hb1)
        | (go_at_call 129; refine (HK.out.int _).mono ?_; rintro e w2 ⟨rfl, hb2⟩
           have x2 := hid (x1.out.call hb2)
           have y2 := hid (bnext y1.out hb2)
           clear hb2
           have d0 := x2.out.cell 0
           have d1 := x2.out.cell 1
           have d2 := x2.out.cell 2
           have e0 := x2.out.free 0
           have e1 := x2.out.free 1
           have e2 := x2.out.free 2
           simp at d0 d1 d2)
        | (go_at_call 134; refine (HK.out.form _).mono ?_; rintro e w3 ⟨rfl, hb3⟩
           have x3 := hid (x2.out.call hb3)
           have y3 := hid (bnext y2.out hb3)
           clear hb3 d0 d1 d2 e0 e1 e2
           have d0 := x3.out.cell 0
           have d1 := x3.out.cell 1
           have d2 := x3.out.cell 2
           have e0 := x3.out.free 0
           have e1 := x3.out.free 1
           have e2 := x3.out.free 2
           simp at d0 d1 d2)
        | fail)
      first
        | (obtain ⟨s1, s2⟩ := set3 x3.out false none none 0 0 0 0
           have f0 := s2.cell 0
           have f1 := s2.cell 1
           have f2 := s2.cell 2
           simp at f0 f1 f2
           refine bodyPost_ret (v := .tuple #[.agg #[.bool false, .slice none 0 0, .slice none 0 0], .int .i64 5]) (by simp [results, Tryz.results132, go_sem, f0, f1, f2]) rfl ⟨rfl, ?_⟩
           exact ((y3.out.setCell (Nat.le_refl _) _).setCell (Nat.le_refl _) _).setCell (Nat.le_refl _) _)
        | (obtain ⟨s1, s2⟩ := set3 x2.out false none none 0 0 0 0
           have f0 := s2.cell 0
           have f1 := s2.cell 1
           have f2 := s2.cell 2
           simp at f0 f1 f2
           refine bodyPost_ret (v := .tuple #[.agg #[.bool false, .slice none 0 0, .slice none 0 0], .int .i64 5]) (by simp [results, Tryz.results132, go_sem, f0, f1, f2]) rfl ⟨rfl, ?_⟩
           exact ((y2.out.setCell (Nat.le_refl _) _).setCell (Nat.le_refl _) _).setCell (Nat.le_refl _) _)
    · have q0 : decide ((4000 : Int) < (D.size : Int)) = false := by simp; omega
      have q1 : decide ((4000 : Int) < (B.size : Int)) = true := by simp; omega
      clear hl hl2
      go_enter Tryz.func132, Tryz.ntmps132
      go_wp2_with (first
        | (go_at_call 91; refine (HK.out.cut _ t2.out).mono ?_; rintro e w1 ⟨rfl, hb1⟩
           have x1 := hid (t0.out.call hb1)
           have y1 := hid (bnext t1.out hb1)
           clear hb1)
        | (go_at_call 129; refine (HK.out.int _).mono ?_; rintro e w2 ⟨rfl, hb2⟩
           have x2 := hid (x1.out.call hb2)
           have y2 := hid (bnext y1.out hb2)
           clear hb2
           have d0 := x2.out.cell 0
           have d1 := x2.out.cell 1
           have d2 := x2.out.cell 2
           have e0 := x2.out.free 0
           have e1 := x2.out.free 1
           have e2 := x2.out.free 2
           simp at d0 d1 d2)
        | (go_at_call 134; refine (HK.out.form _).mono ?_; rintro e w3 ⟨rfl, hb3⟩
           have x3 := hid (x2.out.call hb3)
           have y3 := hid (bnext y2.out hb3)
           clear hb3 d0 d1 d2 e0 e1 e2
           have d0 := x3.out.cell 0
           have d1 := x3.out.cell 1
           have d2 := x3.out.cell 2
           have e0 := x3.out.free 0
           have e1 := x3.out.free 1
           have e2 := x3.out.free 2
           simp at d0 d1 d2)
        | fail)
      first
        | (obtain ⟨s1, s2⟩ := set3 x3.out false none none 0 0 0 0
           have f0 := s2.cell 0
           have f1 := s2.cell 1
           have f2 := s2.cell 2
           simp at f0 f1 f2
           refine bodyPost_ret (v := .tuple #[.agg #[.bool false, .slice none 0 0, .slice none 0 0], .int .i64 5]) (by simp [results, Tryz.results132, go_sem, f0, f1, f2]) rfl ⟨rfl, ?_⟩
           exact ((y3.out.setCell (Nat.le_refl _) _).setCell (Nat.le_refl _) _).setCell (Nat.le_refl _) _)
        | (obtain ⟨s1, s2⟩ := set3 x2.out false none none 0 0 0 0
           have f0 := s2.cell 0
           have f1 := s2.cell 1
           have f2 := s2.cell 2
           simp at f0 f1 f2
           refine bodyPost_ret (v := .tuple #[.agg #[.bool false, .slice none 0 0, .slice none 0 0], .int .i64 5]) (by simp [results, Tryz.results132, go_sem, f0, f1, f2]) rfl ⟨rfl, ?_⟩
           exact ((y2.out.setCell (Nat.le_refl _) _).setCell (Nat.le_refl _) _).setCell (Nat.le_refl _) _)
end Go.Proofs.YtikfgddgfddbaaaGreatDoor

/- Walks: the program's texts of numbers: frac.Parse, the ways that read the digits. -/
namespace Go.Proofs.YtikfgddgfddbaaaGreatDoor
open Go.RowKit Go.Shelf
set_option linter.unusedVariables false

/-- The struct of a sign, a numerator and a denominator. -/
def IsF (w : World) (v : Value) (m : Bool) (n d : Nat) : Prop := ∃ N D, v = .agg #[.bool m, N, D] ∧ IsN .u64 w N n ∧ IsN .u64 w D d

/-- What reading a text gives back. -/
def RetF (x : Int) (m : Bool) (n d : Nat) (e : Ending) (w' : World) : Prop := ∃ v, e = .returned (.tuple #[v, .int .i64 x]) ∧ (x = 0 → IsF w' v m n d) ∧ (x ≠ 0 → v = .agg #[.bool false, .slice none 0 0, .slice none 0 0])

theorem RetF.err {x : Int} {m : Bool} {n d : Nat} {w' : World} (h : x ≠ 0) : RetF x m n d (.returned (.tuple #[.agg #[.bool false, .slice none 0 0, .slice none 0 0], .int .i64 x])) w' := ⟨_, rfl, fun e => absurd e h, fun _ => rfl⟩

theorem bN_limbs {s : ByteArray} (h : allDig s.data.toList) (hs : ¬ 4000 < s.size) : (limbs (bN s)).length ≤ 1000000 := by
  refine dv_limbs h ?_
  have : s.data.toList.length = s.size := Array.length_toList
  omega

set_option maxRecDepth 100000 in
set_option maxHeartbeats 400000 in
theorem fp_frac (w : World) (s W B D : ByteArray) (M : Bool) (HL : Hid (Lay w)) (HC : Cuts s W B D true M true true)
    (h1 : ¬ D = ⟨#[48]⟩) (h2 : ¬ B = ⟨#[48]⟩) (h3 : ¬ B = ⟨#[49]⟩) (hl1 : ¬ 4000 < D.size) (hl2 : ¬ 4000 < B.size) (hd1 : allDig D.data.toList) (hd2 : allDig B.data.toList) :
    Calls Tryz.prog 132 #[.string s] w fun e w' => RetF (if Nat.gcd (bN D) (bN B) = 1 then 0 else 3) M (bN D) (bN B) e w' ∧ Below w.heap.size w w' := by
  obtain ⟨xc, hxc⟩ : ∃ x : Int, (if Nat.gcd (bN D) (bN B) = 1 then 0 else 3) = x := ⟨_, rfl⟩
  rw [hxc]
  have HXC := hid hxc
  clear hxc
  have HK := hid HC
  clear HC
  have t0 := hid (Blk.new w #[.bool false, .slice none 0 0, .slice none 0 0] 110)
  have t1 := hid ((Below.refl w.heap.size w).alloc (Nat.le_refl _) (.cells #[.bool false, .slice none 0 0, .slice none 0 0] 110))
  have t2 := hid (HL.out.call t1.out)
  have i1 := ne_lit (l := [48]) h1
  have i2 := ne_lit (l := [48]) h2
  have i3 := ne_lit (l := [49]) h3
  have q0 : decide ((4000 : Int) < (D.size : Int)) = false := by simp; omega
  have q1 : decide ((4000 : Int) < (B.size : Int)) = false := by simp; omega
  have L1 := hid (bN_limbs hd1 hl1)
  have L2 := hid (bN_limbs hd2 hl2)
  have P1 := fun W => hid (l_Parse W D hd1 (by omega))
  have P2 := fun W => hid (l_Parse W B hd2 (by omega))
  clear hd1 hd2 h1 h2 h3 hl1 hl2
  go_enter Tryz.func132, Tryz.ntmps132
  go_wp2_with (first
    | (go_at_call 91; refine (HK.out.cut _ t2.out).mono ?_; rintro e w1 ⟨rfl, hb1⟩
       have x1 := hid (t0.out.call hb1)
       have y1 := hid (bnext t1.out hb1)
       clear hb1)
    | (go_at_call 129; refine (HK.out.int _).mono ?_; rintro e w2 ⟨rfl, hb2⟩
       have x2 := hid (x1.out.call hb2)
       have y2 := hid (bnext y1.out hb2)
       clear hb2)
    | (go_at_call 134; refine (HK.out.form _).mono ?_; rintro e w3 ⟨rfl, hb3⟩
       have x3 := hid (x2.out.call hb3)
       have y3 := hid (bnext y2.out hb3)
       clear hb3)
    | fail)
  refine (P1 _).out.mono ?_; rintro e w4 ⟨⟨v4, rfl, hv4⟩, hb4⟩
  have x4 := hid (x3.out.call hb4)
  have y4 := hid (bnext y3.out hb4)
  have N4 := hid hv4
  clear hb4 hv4
  obtain ⟨a4, c4, rfl, _⟩ := N4.out.openI
  obtain ⟨k1, hk1⟩ : ∃ k, (limbs (dv D.data.toList)).length = k := ⟨_, rfl⟩
  rw [hk1] at N4 ⊢
  clear P1
  go_wp2_with fail
  refine (P2 _).out.mono ?_; rintro e w5 ⟨⟨v5, rfl, hv5⟩, hb5⟩
  have x5 := hid (x4.out.call hb5)
  have y5 := hid (bnext y4.out hb5)
  have N5 := hid (N4.out.call hb5)
  have D5 := hid hv5
  clear hb5 hv5
  obtain ⟨a5, c5, rfl, _⟩ := D5.out.openI
  obtain ⟨k2, hk2⟩ : ∃ k, (limbs (dv B.data.toList)).length = k := ⟨_, rfl⟩
  rw [hk2] at D5 ⊢
  clear P2
  go_wp2_with fail
  have z5 := hid (Blk.new w5 #[.bool M, .slice a4 k1 c4, .slice a5 k2 c5] 110)
  have b5 := hid ((Below.refl w5.heap.size w5).alloc (Nat.le_refl _) (.cells #[.bool M, .slice a4 k1 c4, .slice a5 k2 c5] 110))
  refine (l_Gcd _ _ _ _ _ (N5.out.call b5.out) (D5.out.call b5.out) L1.out L2.out).mono ?_
  rintro e w6 ⟨⟨v6, rfl, hv6⟩, hb6⟩
  have z6 := hid (z5.out.call hb6)
  have x6 := hid ((x5.out.call b5.out).call hb6)
  have y6 := hid (bnext (bnext y5.out b5.out) hb6)
  have N6 := hid ((N5.out.call b5.out).call hb6)
  have D6 := hid ((D5.out.call b5.out).call hb6)
  have G6 := hid hv6
  clear hb6 hv6
  obtain ⟨a6, c6, rfl, _⟩ := G6.out.openI
  go_wp2_with fail
  refine (l_One _ _ _ G6.out).mono ?_
  rintro e w7 ⟨rfl, rfl⟩
  by_cases hG : Nat.gcd (bN D) (bN B) = 1
  · have hO : isO (Nat.gcd (dv D.data.toList) (dv B.data.toList)) = true := isO_iff.2 hG
    have X0 := hid (show xc = 0 from by rw [← HXC.out, if_pos hG])
    rw [hO]
    have d0 := x6.out.cell 0
    have d1 := x6.out.cell 1
    have d2 := x6.out.cell 2
    have e0 := x6.out.free 0
    have e1 := x6.out.free 1
    have e2 := x6.out.free 2
    have g0 := z6.out.cell 0
    have g1 := z6.out.cell 1
    have g2 := z6.out.cell 2
    simp at d0 d1 d2 g0 g1 g2
    clear hO
    have HG := hid hG
    clear hG
    go_wp2_with fail
    obtain ⟨s1, s2⟩ := set3 x6.out M a4 a5 k1 c4 k2 c5
    have f0 := s2.cell 0
    have f1 := s2.cell 1
    have f2 := s2.cell 2
    simp at f0 f1 f2
    refine bodyPost_ret (v := .tuple #[.agg #[.bool M, .slice a4 k1 c4, .slice a5 k2 c5], .int .i64 0]) (by simp [results, Tryz.results132, go_sem, f0, f1, f2]) rfl ⟨by rw [X0.out]; exact ⟨_, rfl, fun _ => ⟨_, _, rfl, s1 _ _ _ N6.out, s1 _ _ _ D6.out⟩, fun h => absurd rfl h⟩, ?_⟩
    exact ((y6.out.setCell (Nat.le_refl _) _).setCell (Nat.le_refl _) _).setCell (Nat.le_refl _) _
  · have hO : isO (Nat.gcd (dv D.data.toList) (dv B.data.toList)) = false := by
      rw [Bool.eq_false_iff]
      exact fun h => hG (isO_iff.1 h)
    have X0 := hid (show xc = 3 from by rw [← HXC.out, if_neg hG])
    rw [hO]
    have d0 := x6.out.cell 0
    have d1 := x6.out.cell 1
    have d2 := x6.out.cell 2
    have e0 := x6.out.free 0
    have e1 := x6.out.free 1
    have e2 := x6.out.free 2
    simp at d0 d1 d2
    clear hO
    have HG := hid hG
    clear hG
    go_wp2_with fail
    obtain ⟨s1, s2⟩ := set3 x6.out false none none 0 0 0 0
    have f0 := s2.cell 0
    have f1 := s2.cell 1
    have f2 := s2.cell 2
    simp at f0 f1 f2
    refine bodyPost_ret (v := .tuple #[.agg #[.bool false, .slice none 0 0, .slice none 0 0], .int .i64 3]) (by simp [results, Tryz.results132, go_sem, f0, f1, f2]) rfl ⟨by rw [X0.out]; exact RetF.err (by decide), ?_⟩
    exact ((y6.out.setCell (Nat.le_refl _) _).setCell (Nat.le_refl _) _).setCell (Nat.le_refl _) _
end Go.Proofs.YtikfgddgfddbaaaGreatDoor

/- Walks: the program's texts of numbers: frac.Parse (whole), rat.Check, rat.Parts. -/
namespace Go.Proofs.YtikfgddgfddbaaaGreatDoor
open Go.RowKit Go.Shelf
set_option linter.unusedVariables false

set_option maxRecDepth 100000 in
set_option maxHeartbeats 4000000 in
theorem fp_int (w : World) (s W B D : ByteArray) (M fb : Bool) (HL : Hid (Lay w)) (HC : Cuts s W B D false M true fb)
    (hl1 : ¬ 4000 < D.size) (hd1 : allDig D.data.toList) :
    Calls Tryz.prog 132 #[.string s] w fun e w' => RetF 0 M (bN D) 1 e w' ∧ Below w.heap.size w w' := by
  have HK := hid HC
  clear HC
  have t0 := hid (Blk.new w #[.bool false, .slice none 0 0, .slice none 0 0] 110)
  have t1 := hid ((Below.refl w.heap.size w).alloc (Nat.le_refl _) (.cells #[.bool false, .slice none 0 0, .slice none 0 0] 110))
  have t2 := hid (HL.out.call t1.out)
  have q0 : decide ((4000 : Int) < (D.size : Int)) = false := by simp; omega
  have P1 := fun W => hid (l_Parse W D hd1 (by omega))
  have P2 := fun W => hid (l_Parse W ⟨#[49]⟩ (by intro b hb; simp at hb; subst hb; rfl) (Nat.succ_le_succ (Nat.zero_le _)))
  clear hd1 hl1
  go_enter Tryz.func132, Tryz.ntmps132
  go_wp2_with (first
    | (go_at_call 91; refine (HK.out.cut _ t2.out).mono ?_; rintro e w1 ⟨rfl, hb1⟩
       have x1 := hid (t0.out.call hb1)
       have y1 := hid (bnext t1.out hb1)
       clear hb1)
    | (go_at_call 129; refine (HK.out.int _).mono ?_; rintro e w2 ⟨rfl, hb2⟩
       have x2 := hid (x1.out.call hb2)
       have y2 := hid (bnext y1.out hb2)
       clear hb2)
    | fail)
  refine (P1 _).out.mono ?_; rintro e w4 ⟨⟨v4, rfl, hv4⟩, hb4⟩
  have x4 := hid (x2.out.call hb4)
  have y4 := hid (bnext y2.out hb4)
  have N4 := hid hv4
  clear hb4 hv4
  obtain ⟨a4, c4, rfl, _⟩ := N4.out.openI
  obtain ⟨k1, hk1⟩ : ∃ k, (limbs (dv D.data.toList)).length = k := ⟨_, rfl⟩
  rw [hk1] at N4 ⊢
  clear P1
  go_wp2_with fail
  refine (P2 _).out.mono ?_; rintro e w5 ⟨⟨v5, rfl, hv5⟩, hb5⟩
  have x5 := hid (x4.out.call hb5)
  have y5 := hid (bnext y4.out hb5)
  have N5 := hid (N4.out.call hb5)
  have D5 := hid (show IsN .u64 w5 v5 1 from hv5)
  clear hb5 hv5
  obtain ⟨a5, c5, rfl, _⟩ := D5.out.openI
  obtain ⟨k2, hk2⟩ : ∃ k, (limbs 1).length = k := ⟨_, rfl⟩
  rw [hk2] at D5 ⊢
  clear P2
  have z6 := hid (Blk.new w5 #[.bool M, .slice a4 k1 c4, .slice a5 k2 c5] 110)
  have b5 := hid ((Below.refl w5.heap.size w5).alloc (Nat.le_refl _) (.cells #[.bool M, .slice a4 k1 c4, .slice a5 k2 c5] 110))
  have x6 := hid (x5.out.call b5.out)
  have y6 := hid (bnext y5.out b5.out)
  have N6 := hid (N5.out.call b5.out)
  have D6 := hid (D5.out.call b5.out)
  have d0 := x6.out.cell 0
  have d1 := x6.out.cell 1
  have d2 := x6.out.cell 2
  have e0 := x6.out.free 0
  have e1 := x6.out.free 1
  have e2 := x6.out.free 2
  have g0 := z6.out.cell 0
  have g1 := z6.out.cell 1
  have g2 := z6.out.cell 2
  simp at d0 d1 d2 g0 g1 g2
  go_wp2_with fail
  obtain ⟨s1, s2⟩ := set3 x6.out M a4 a5 k1 c4 k2 c5
  have f0 := s2.cell 0
  have f1 := s2.cell 1
  have f2 := s2.cell 2
  simp at f0 f1 f2
  refine bodyPost_ret (v := .tuple #[.agg #[.bool M, .slice a4 k1 c4, .slice a5 k2 c5], .int .i64 0]) (by simp [results, Tryz.results132, go_sem, f0, f1, f2]) rfl ⟨⟨_, rfl, fun _ => ⟨_, _, rfl, s1 _ _ _ N6.out, s1 _ _ _ D6.out⟩, fun h => absurd rfl h⟩, ?_⟩
  exact ((y6.out.setCell (Nat.le_refl _) _).setCell (Nat.le_refl _) _).setCell (Nat.le_refl _) _

theorem qD_false {s : ByteArray} (h : cS s = false) : qD s = ⟨#[49]⟩ := by simp [qD, h]
theorem qD_true {s : ByteArray} (h : cS s = true) : qD s = cB s := by simp [qD, h]

theorem f_Parse (w : World) (s : ByteArray) (hs : s.size ≤ 1000000) (hL : Lay w) :
    Calls Tryz.prog 132 #[.string s] w fun e w' => RetF (qE s) (iM (cW s)) (bN (iD (cW s))) (bN (qD s)) e w' ∧ Below w.heap.size w w' := by
  have HC := cuts_of s hs
  have HL := hid hL
  by_cases hq : qB s = true
  · have hi := qB_whole hq
    rw [hi] at HC
    have hdD := fB_dig (iB_form hi)
    have hcS : cS s = false ∨ (cS s = true ∧ ¬ iD (cW s) = ⟨#[48]⟩ ∧ ¬ cB s = ⟨#[48]⟩ ∧ ¬ cB s = ⟨#[49]⟩ ∧ fB (cB s) = true) := by
      have hq' := hq
      unfold qB at hq'
      simp only [Bool.and_eq_true, Bool.or_eq_true, Bool.not_eq_true', decide_eq_true_eq] at hq'
      rcases hq'.2 with h | h
      · exact .inl h
      · cases hc : cS s
        · exact .inl rfl
        · exact .inr ⟨rfl, h.1.1.1, h.1.2, h.2, h.1.1.2⟩
    by_cases hl : qL s = true
    · have e : qE s = 5 := by simp [qE, hq, hl]
      rw [e]
      unfold qL at hl
      simp only [Bool.or_eq_true, decide_eq_true_eq] at hl
      refine (fp_long w s _ _ _ _ _ _ HL HC hcS ?_).mono ?_
      · by_cases h4 : 4000 < (iD (cW s)).size
        · exact .inl h4
        · refine .inr ⟨h4, ?_⟩
          rcases hcS with hc | ⟨hc, -⟩
          · rw [qD_false hc] at hl
            exact absurd (hl.resolve_left h4) (by decide)
          · rw [qD_true hc] at hl
            exact ⟨hc, hl.resolve_left h4⟩
      · rintro e w' ⟨rfl, hb⟩
        exact ⟨RetF.err (by decide), hb⟩
    · have hl' : qL s = false := by simpa using hl
      have hl1 : ¬ 4000 < (iD (cW s)).size ∧ ¬ 4000 < (qD s).size := by
        unfold qL at hl'
        simpa using hl'
      rcases hcS with hc | ⟨hc, h1, h2, h3, h4⟩
      · rw [hc] at HC
        have e : qE s = 0 := by simp [qE, hq, hl', qG, hc]
        rw [e, qD_false hc]
        exact fp_int w s _ _ _ _ _ HL HC hl1.1 hdD
      · rw [hc, h4] at HC
        have hl2 := hl1.2
        rw [qD_true hc] at hl2
        have e : qE s = if Nat.gcd (bN (iD (cW s))) (bN (cB s)) = 1 then 0 else 3 := by
          simp only [qE, hq, hl', qG, hc, qD_true hc]
          by_cases hg : Nat.gcd (bN (iD (cW s))) (bN (cB s)) = 1 <;> simp [hg]
        rw [e, qD_true hc]
        exact fp_frac w s _ _ _ _ HL HC h1 h2 h3 hl1.1 hl2 hdD (fB_dig h4)
  · have hq' : qB s = false := by simpa using hq
    have e : qE s = 3 := by simp [qE, hq']
    rw [e]
    refine (fp_bad w s _ _ _ _ _ _ _ HL HC hq').mono ?_
    rintro e w' ⟨rfl, hb⟩
    exact ⟨RetF.err (by decide), hb⟩
end Go.Proofs.YtikfgddgfddbaaaGreatDoor

/- Walks: rat.Check, rat.Parts. -/
namespace Go.Proofs.YtikfgddgfddbaaaGreatDoor
open Go.RowKit Go.Shelf
set_option linter.unusedVariables false

/-- What reading gives, as three parts. -/
theorem RetF.parts {x : Int} {m : Bool} {n d : Nat} {e : Ending} {w' : World} (h : RetF x m n d e w') : ∃ (b : Bool) (a1 a2 : Option Addr) (n1 c1 n2 c2 : Nat), e = .returned (.tuple #[.agg #[.bool b, .slice a1 n1 c1, .slice a2 n2 c2], .int .i64 x]) := by
  obtain ⟨v, rfl, h1, h2⟩ := h
  by_cases hx : x = 0
  · obtain ⟨N, D, rfl, hN, hD⟩ := h1 hx
    obtain ⟨a1, c1, rfl, _⟩ := hN.openI
    obtain ⟨a2, c2, rfl, _⟩ := hD.openI
    exact ⟨_, _, _, _, _, _, _, rfl⟩
  · rw [h2 hx]
    exact ⟨_, _, _, _, _, _, _, rfl⟩

set_option maxRecDepth 100000 in
set_option maxHeartbeats 1000000 in
theorem q_Check (w : World) (s : ByteArray) (hs : s.size ≤ 1000000) (hL : Lay w) :
    Calls Tryz.prog 90 #[.string s] w fun e w' => e = .returned (.int .i64 (qE s)) ∧ Below w.heap.size w w' := by
  have HC := hid (f_Parse w s hs hL)
  go_enter Tryz.func90, Tryz.ntmps90
  go_wp2_with fail
  refine HC.out.mono ?_
  rintro e w1 ⟨hr, hb⟩
  obtain ⟨b, a1, a2, n1, c1, n2, c2, rfl⟩ := hr.parts
  have HB := hid hb
  clear hr hb
  go_wp2_with fail
  go_ret
  exact ⟨rfl, HB.out.alloc HB.out.size _⟩

/-- The numerator's and the denominator's text, of a text that is valid. -/
def pW (s : ByteArray) : ByteArray := if qE s = 0 then cW s else ⟨#[]⟩
def pD (s : ByteArray) : ByteArray := if qE s = 0 then qD s else ⟨#[]⟩

set_option maxRecDepth 100000 in
set_option maxHeartbeats 1000000 in
theorem q_Parts (w : World) (s : ByteArray) (hs : s.size ≤ 1000000) (hL : Lay w) :
    Calls Tryz.prog 48 #[.string s] w fun e w' => e = .returned (.tuple #[.string (pW s), .string (pD s), .int .i64 (qE s)]) ∧ Below w.heap.size w w' := by
  have HC := hid (q_Check w s hs hL)
  have HU := hid (cuts_of s hs)
  have HL := hid hL
  clear hL
  by_cases he : qE s = 0
  · have e1 : pW s = cW s := if_pos he
    have e2 : pD s = qD s := if_pos he
    rw [e1, e2, he]
    rw [he] at HC
    clear e1 e2
    obtain ⟨W, hW⟩ : ∃ W, cW s = W := ⟨_, rfl⟩
    obtain ⟨B, hB⟩ : ∃ B, cB s = B := ⟨_, rfl⟩
    rw [hW, hB] at HU
    rw [hW]
    cases hc : cS s
    · rw [qD_false hc]
      rw [hc] at HU
      clear hW hB hc he
      go_enter Tryz.func48, Tryz.ntmps48
      go_wp2_with (first
        | (go_at_call 90; refine HC.out.mono ?_; rintro e w1 ⟨rfl, hb1⟩
           have y1 := hid hb1; clear hb1)
        | (go_at_call 91; refine (HU.out.cut _ (HL.out.call y1.out)).mono ?_; rintro e w2 ⟨rfl, hb2⟩
           have y2 := hid (bnext y1.out hb2); clear hb2)
        | fail)
      go_ret3
      exact ⟨rfl, y2.out⟩
    · rw [qD_true hc, hB]
      rw [hc] at HU
      clear hW hB hc he
      go_enter Tryz.func48, Tryz.ntmps48
      go_wp2_with (first
        | (go_at_call 90; refine HC.out.mono ?_; rintro e w1 ⟨rfl, hb1⟩
           have y1 := hid hb1; clear hb1)
        | (go_at_call 91; refine (HU.out.cut _ (HL.out.call y1.out)).mono ?_; rintro e w2 ⟨rfl, hb2⟩
           have y2 := hid (bnext y1.out hb2); clear hb2)
        | fail)
      go_ret3
      exact ⟨rfl, y2.out⟩
  · have e1 : pW s = ⟨#[]⟩ := if_neg he
    have e2 : pD s = ⟨#[]⟩ := if_neg he
    rw [e1, e2]
    have q0 : (qE s != 0) = true := by simpa using he
    obtain ⟨x, hx⟩ : ∃ x, qE s = x := ⟨_, rfl⟩
    rw [hx] at HC q0 ⊢
    clear hx he e1 e2
    have q1 : (x == 0) = false := by simpa using q0
    have q2 : ¬ x = 0 := by simpa using q0
    go_enter Tryz.func48, Tryz.ntmps48
    go_wp2_with (first
      | (go_at_call 90; refine HC.out.mono ?_; rintro e w1 ⟨rfl, hb1⟩
         have y1 := hid hb1; clear hb1)
      | fail)
    go_ret3
    exact ⟨rfl, y1.out⟩
end Go.Proofs.YtikfgddgfddbaaaGreatDoor

/- Plain words: the results of operations on texts of natural numbers. -/
namespace Go.Proofs.YtikfgddgfddbaaaGreatDoor
open Go.RowKit
open Go.Lib (decDigits nDigits)

/-- A call gives back the decimal text of n. -/
def numV (n : Nat) : Value := .string ⟨(decDigits n).toArray⟩

/-- The result of an operation on natural numbers: the text and the error (ErrOver). -/
def resS (n : Nat) : Value := if 4000 < nDigits n then .string ⟨#[]⟩ else numV n
def resE (n : Nat) : Int := if 4000 < nDigits n then 5 else 0

theorem resS_long {n : Nat} (h : 4000 < nDigits n) : resS n = .string ⟨#[]⟩ := by rw [resS, if_pos h]
theorem resS_ok {n : Nat} (h : ¬ 4000 < nDigits n) : resS n = numV n := by rw [resS, if_neg h]
theorem resE_long {n : Nat} (h : 4000 < nDigits n) : resE n = 5 := by rw [resE, if_pos h]
theorem resE_ok {n : Nat} (h : ¬ 4000 < nDigits n) : resE n = 0 := by rw [resE, if_neg h]

/-- An operation on two texts of natural numbers. -/
def opS (f : Nat → Nat → Nat) (s t : List UInt8) : Value := if errN s = 0 ∧ errN t = 0 then resS (f (dv s) (dv t)) else .string ⟨#[]⟩
def opE (f : Nat → Nat → Nat) (s t : List UInt8) : Int := if errN s = 0 then (if errN t = 0 then resE (f (dv s) (dv t)) else errN t) else errN s

theorem ret_pair {a b : Value} {x y : Int} {k : IntKind} (h1 : a = b) (h2 : x = y) : Ending.returned (.tuple #[a, .int k x]) = .returned (.tuple #[b, .int k y]) := by rw [h1, h2]

/-- The bytes of a numeral. -/
def numB (n : Nat) : ByteArray := ⟨(decDigits n).toArray⟩
theorem numV_eq (n : Nat) : numV n = .string (numB n) := rfl
theorem numB_size (n : Nat) : (numB n).size = nDigits n := by
  unfold numB ByteArray.size
  simp [Go.Lib.decDigits_length]
theorem numB_list (n : Nat) : (numB n).data.toList = decDigits n := by simp [numB]

theorem nDigits_bound {n L : Nat} (h : (limbs n).length ≤ L) (hL : 0 < L) : nDigits n ≤ 9 * L := by
  refine nDigits_le (by omega) ?_
  have := limbs_length_le.1 h
  rwa [show (1000000000 : Nat) = 10 ^ 9 by rfl, ← Nat.pow_mul] at this

/-- The comparison of two texts. -/
def cmpN (s t : List UInt8) : Int := if errN s = 0 ∧ errN t = 0 then ordN (dv s) (dv t) else 0

end Go.Proofs.YtikfgddgfddbaaaGreatDoor

/- Walks: the program's limbs: Digits. -/
namespace Go.Proofs.YtikfgddgfddbaaaGreatDoor
open Go.RowKit Go.Shelf
set_option linter.unusedVariables false

theorem last_limb {a n : Nat} (hn : (limbs a).length = n + 1) : ∃ x, (limbs a)[n]? = some x ∧ x < 1000000000 ∧ 0 < x ∧ Lib.nDigits a = 9 * n + Lib.nDigits x ∧ val ((limbs a).drop n) = x := by
  have hne : limbs a ≠ [] := fun e => by simp [e] at hn
  obtain ⟨x, hx⟩ : ∃ x, (limbs a)[n]? = some x := ⟨_, List.getElem?_eq_getElem (by omega)⟩
  have hl : (limbs a).getLast hne = x := by
    have h := List.getElem?_eq_some_iff.1 hx
    obtain ⟨h1, h2⟩ := h
    rw [List.getLast_eq_getElem hne, ← h2]
    congr 1
    omega
  have hx' : (limbs a).getLast? = some x := by rw [List.getLast?_eq_some_getLast hne, hl]
  have hp := limbs_last a x hx'
  refine ⟨x, hx, (sm_limbs a).get hx, by omega, ?_, ?_⟩
  · have := nDigits_limbs (sm_limbs a) hne (limbs_last a)
    rw [val_limbs, hl, hn] at this
    simpa using this
  · rw [List.drop_eq_getElem_cons (by omega), List.drop_of_length_le (by omega)]
    have h := List.getElem?_eq_some_iff.1 hx
    obtain ⟨h1, h2⟩ := h
    rw [h2]
    simp [val]

set_option maxRecDepth 100000 in
set_option maxHeartbeats 4000000 in
theorem l_Digits (w : World) (v : Value) (a : Nat) (ha : IsN .u64 w v a) (hL : Lay w) (hla : (limbs a).length ≤ 1000000) :
    Calls Tryz.prog 160 #[v] w fun e w' => e = .returned (.int .i64 (Lib.nDigits a : Nat)) ∧ Below w.heap.size w w' := by
  obtain ⟨a1, c1, rfl, h1, h2, h3⟩ := ha.openI
  have H3 := hid h3; clear h3 ha
  by_cases h0 : (limbs a).length = 0
  · rw [h0]
    have ea : a = 0 := limbs_nil.1 (List.eq_nil_of_length_eq_zero h0)
    go_enter Tryz.func160, Tryz.ntmps160
    go_wp2_with fail
    go_ret
    refine ⟨?_, Below.refl _ _⟩
    rw [ea, show Lib.nDigits 0 = 1 by rw [Lib.nDigits_small (by omega)]]
    rfl
  · obtain ⟨n, ea⟩ : ∃ n, (limbs a).length = n + 1 := ⟨(limbs a).length - 1, by omega⟩
    obtain ⟨x, hx, hx1, hx2, hd, -⟩ := last_limb ea
    obtain ⟨g, o, rfl, hg, hc⟩ := H3.out n x hx
    rw [ea] at h1 hla ⊢
    have hw1 : IntKind.i64.wrap (((n + 1 : Nat) : Int) - 1) = (n : Int) := by rw [IntWalk.i64_in _ ⟨by omega, by omega⟩]; omega
    have hw2 : IntKind.i64.wrap (9 * (n : Int)) = 9 * (n : Int) := IntWalk.i64_in _ ⟨by omega, by omega⟩
    have hdl : Lib.nDigits x ≤ 9 := nDigits_le (by omega) (by omega)
    have hw3 : IntKind.i64.wrap (9 * (n : Int) + ((Lib.nDigits x : Nat) : Int)) = ((Lib.nDigits a : Nat) : Int) := by rw [IntWalk.i64_in _ ⟨by omega, by omega⟩]; omega
    have hlen : (Lib.decDigits x).length = Lib.nDigits x := Lib.decDigits_length x
    clear hd hdl
    go_enter Tryz.func160, Tryz.ntmps160
    go_wp2_with (first
      | (go_at_call 188; refine (l_fmt _ x (by omega) hL).mono ?_; rintro e w' ⟨rfl, hb⟩)
      | fail)
    go_ret
    exact ⟨rfl, hb⟩
#print axioms l_Digits
end Go.Proofs.YtikfgddgfddbaaaGreatDoor

/- Walks: the program's limbs: String. -/
namespace Go.Proofs.YtikfgddgfddbaaaGreatDoor
open Go.RowKit Go.Shelf Go.Lib
set_option linter.unusedVariables false
attribute [local go_sem] Oper.semAt_some

theorem bat_below {T e : TypeId} {B b : Nat} {p : Value} {bs : List Value} {W W' : World} (h : BuilderAtF T e B b p bs W) (hb : Below W.heap.size W W') : BuilderAtF T e B b p bs W' := by
  have hlt := h.lt
  obtain ⟨hB, v, hv, hown, hne⟩ := h
  exact ⟨hB, v, (hb.block b hlt).trans hv, hown.kept (row := none) ⟨hb.os, hb.tape, hb.output, hb.size, fun k hk _ => hb.block k hk⟩ (Classical.em _), hne⟩
theorem isb_below {T e : TypeId} {B b : Nat} {bs : List Value} {W W' : World} (h : IsBuilderF T e B b bs W) (hb : Below W.heap.size W W') : IsBuilderF T e B b bs W' :=
  h.elim (fun x => .inl (bat_below x hb)) (fun x => .inr (bat_below x hb))

theorem bat_kept {T e : TypeId} {B b : Nat} {p : Value} {bs : List Value} {W W' : World} {row : Option Nat} (h : BuilderAtF T e B b p bs W) (hg : W.grownBy W' row) (hr : ∀ r, row = some r → ∃ o : Obj, W.heap[r]? = some o ∧ o.isCells = false) : BuilderAtF T e B b p bs W' := by
  have hne2 : ∀ k cs t f, W.heap[k]? = some (.cells cs t f) → some k ≠ row := fun k cs t f hk ek => by
    obtain ⟨o, ho, hc⟩ := hr k ek.symm
    rw [hk] at ho
    cases ho
    cases hc
  have hlt := h.lt
  obtain ⟨hB, v, hv, hown, hne⟩ := h
  refine ⟨hB, v, (hg.block b hlt (hne2 _ _ _ _ hv)).trans hv, hown.kept (row := row) hg ?_, hne⟩
  rcases hown.2 with ⟨rfl, _⟩ | ⟨g, cap, cur, fz, rfl, _, hgg, _⟩
  · left; rfl
  · right
    intro e'
    exact hne2 g _ _ _ hgg e'

theorem _root_.Go.Lib.BuilderAtF.heap {T e : TypeId} {B b : Nat} {p : Value} {bs : List Value} {W : World} (h : BuilderAtF T e B b p bs W) : ∃ cs, W.heap[b]? = some (.cells cs T (0, 0)) := by
  obtain ⟨_, v, hv, _⟩ := h
  exact ⟨_, hv⟩

theorem keeps_of_others {e : TypeId} {b B : Nat} {T : TypeId} {cs : Array Value} {f : Nat × Nat} {W W' : World} (h : OthersKept e (some b) W W') (hs : W.heap.size ≤ W'.heap.size) (hb : W.heap[b]? = some (.cells cs T f)) : KeepsFrom B W W' :=
  ⟨hs, fun k o _ hk ho => h k o hk (fun ek => by cases ek; rw [hb] at hk; cases hk; cases ho) (fun c fz eo => by rw [eo] at ho; cases ho)⟩

theorem bytes_zeros (l : List UInt8) (k : Nat) : Go.Lib.byteCells l ++ strCells ⟨Array.replicate k 48⟩ = Go.Lib.byteCells (l ++ List.replicate k 48) := by simp [Go.Lib.byteCells, strCells]
theorem bytes_app (l m : List UInt8) : Go.Lib.byteCells l ++ strCells ⟨m.toArray⟩ = Go.Lib.byteCells (l ++ m) := by simp [Go.Lib.byteCells, strCells]

theorem zeros_from (k : Nat) (h1 : 1 ≤ k) (h : k ≤ 9) (W : World) : (Instr.slice 9 (.string ⟨#[48, 48, 48, 48, 48, 48, 48, 48, 48]⟩) (some (.int .i64 (k : Int))) none none).run Tryz.prog W = .ok (.string ⟨(List.replicate (9 - k) 48).toArray⟩) W := by
  rw [run_slice_string_l W 9 _ Tryz.underlying9 .i64 (k : Int) (by omega) (by simp [ByteArray.size]; omega)]
  have hk : k = 1 ∨ k = 2 ∨ k = 3 ∨ k = 4 ∨ k = 5 ∨ k = 6 ∨ k = 7 ∨ k = 8 ∨ k = 9 := by omega
  rcases hk with rfl | rfl | rfl | rfl | rfl | rfl | rfl | rfl | rfl <;> rfl

theorem zeros_from' (k : Nat) (h1 : 1 ≤ k) (h : k ≤ 9) (W : World) : (Instr.sliceAt 9 (.string ⟨#[48, 48, 48, 48, 48, 48, 48, 48, 48]⟩) (some (.int .i64 (k : Int))) none none).run Tryz.prog W = .ok (.string ⟨(List.replicate (9 - k) 48).toArray⟩) W := by
  rw [run_sliceAt_string W 9 _ _ _ _ Tryz.underlying9]
  exact zeros_from k h1 h W

theorem step_below {B n0 bs : Nat} {W W' : World} (h : Below W.heap.size W W') (hb : bs < W.heap.size) (hn : n0 ≤ W.heap.size) : KpB n0 bs W W' ∧ KeepsFrom B W W' :=
  ⟨⟨h.mono hn, h.block bs hb⟩, h.size, fun k o _ hk _ => (h.block k (Array.getElem?_eq_some_iff.1 hk).1).trans hk⟩

theorem step_write {e T T' : TypeId} {B n0 bs b : Nat} {cs cs' : Array Value} {W W' : World} {f : Nat × Nat} (h : OthersKept e (some b) W W') (hB : Below n0 W W') (hb : W.heap[b]? = some (.cells cs T f)) (hx : Blk W bs cs' T') (hne : bs ≠ b) (hT : T' ≠ e) : KpB n0 bs W W' ∧ KeepsFrom B W W' :=
  ⟨⟨hB, (h bs _ hx (fun ek => hne (by cases ek; rfl)) (fun c fz ec => hT (by cases ec; rfl))).trans (Eq.symm hx)⟩, keeps_of_others h hB.size hb⟩

set_option maxRecDepth 100000 in
set_option maxHeartbeats 4000000 in
theorem l_String (w : World) (v : Value) (a : Nat) (ha : IsN .u64 w v a) (hL : Lay w) (hla : (limbs a).length ≤ 1000000) :
    Calls Tryz.prog 161 #[v] w fun e w' => e = .returned (.string ⟨(Lib.decDigits a).toArray⟩) ∧ Below w.heap.size w w' := by
  obtain ⟨a1, c1, rfl, h1, h2, h3⟩ := ha.openI
  have H3 := hid h3; clear h3 ha
  by_cases h0 : (limbs a).length = 0
  · rw [h0]
    have ea : a = 0 := limbs_nil.1 (List.eq_nil_of_length_eq_zero h0)
    refine (callsIn_wide (n := 9)).1 ?_
    refine callsIn_of_wp_marks Tryz.func161 rfl trivial ?_ rfl
    simp only [Tryz.ntmps161, List.size_toArray, List.length_cons, List.length_nil, Nat.reduceAdd, Nat.reduceSub, Array.replicate_succ, Array.replicate_zero, List.push_toArray, List.append_toArray, List.nil_append, List.cons_append]
    gi_wp2
    refine ⟨.string ⟨#[48]⟩, by simp [results, Tryz.results161, go_sem], ?_, Below.refl _ _⟩
    rw [ea, dec_zero]
  · obtain ⟨n, ea⟩ : ∃ n, (limbs a).length = n + 1 := ⟨(limbs a).length - 1, by omega⟩
    obtain ⟨x, hx, hx1, hx2, hd, hv⟩ := last_limb ea
    obtain ⟨g, o, rfl, hg, hc⟩ := H3.out n x hx
    rw [ea] at h1 hla ⊢
    have hw1 : IntKind.i64.wrap (((n + 1 : Nat) : Int) - 1) = (n : Int) := by rw [IntWalk.i64_in _ ⟨by omega, by omega⟩]; omega
    have HD := hid hd
    have HV := hid hv
    have HL := hid hL
    clear hd hv hL
    refine (callsIn_wide (n := 9)).1 ?_
    refine callsIn_of_wp_marks Tryz.func161 rfl trivial ?_ rfl
    simp only [Tryz.ntmps161, List.size_toArray, List.length_cons, List.length_nil, Nat.reduceAdd, Nat.reduceSub, Array.replicate_succ, Array.replicate_zero, List.push_toArray, List.append_toArray, List.nil_append, List.cons_append]
    gi_wp2_with (first
      | (refine ⟨trivial, ?_⟩; gi_at_call 188
         refine (callsIn_wide.2 (l_fmt _ x (by omega) (HL.out.call ((Below.refl _ _).alloc (Nat.le_refl _) _)))).mono ?_
         rintro e W2 ⟨rfl, hb2⟩
         have HI : Hid (IsBuilderF 189 5 w.heap.size w.heap.size [] W2) := isb_below (IsBuilderF.of (fresh_isBuilder 189 5 w)) hb2
         have HB2 : Hid (Below w.heap.size w W2) := bnext ((Below.refl _ _).alloc (Nat.le_refl _) _) hb2
         clear hb2)
      | (refine ⟨trivial, ?_⟩; gi_at_call 189
         refine (callsIn_wide.2 (Tryz.builder_WriteString w.heap.size w.heap.size [] _ _ HI.out (by simp only [List.length_nil, ByteArray.size, List.size_toArray, Lib.decDigits_length]; have := nDigits_le (n := x) (k := 9) (by omega) (by omega); omega) HB2.out.size)).mono ?_
         rintro e W3 ⟨rfl, hi3, hb3, -⟩
         have HI3 := hid hi3
         have HB3 : Hid (Below w.heap.size w W3) := HB2.out.trans hb3
         clear hi3 hb3)
      | (refine ⟨trivial, ?_⟩; gi_at_call 138; refine (callsIn_wide.2 (back_call _ _ _ _)).mono ?_; rintro e w' ⟨rfl, rfl⟩)
      | fail)
    obtain ⟨W0, hW0⟩ : ∃ W0, W3.alloc (Obj.cells #[Value.slice (some { block := g, off := o }) n c1] 100) = W0 := ⟨_, rfl⟩
    have y1 : Blk W0 W3.heap.size #[.slice (some ⟨g, o, none⟩) n c1] 100 := by rw [← hW0]; exact Blk.new _ _ _
    have i0 : BuilderAtF 189 5 w.heap.size w.heap.size (.pointer (some ⟨w.heap.size, 0, none⟩)) (Go.Lib.byteCells (Lib.decDigits x)) W0 := by
      rw [← hW0]
      have := BuilderAtF.alloc HI3.out (Obj.cells #[Value.slice (some { block := g, off := o }) n c1] 100)
      simpa [strCells, Go.Lib.byteCells] using this
    have B0 : Below w.heap.size w W0 := by rw [← hW0]; exact HB3.out.alloc HB3.out.size _
    have z0 : W0.heap.size = W3.heap.size + 1 := by rw [← hW0]; simp
    have lt3 : w.heap.size < W3.heap.size := HI3.out.lt
    rw [hW0]
    have Y1 := hid y1; have I0 := hid i0; have HB0 := hid B0; have Z0 := hid z0; have L3 := hid lt3
    have HA := hid ea; have HG := hid hg; have HX := hid hx2
    clear y1 i0 B0 z0 lt3 hW0 HI HB2 HI3 HB3 hc hw1 hx
    have hread : ∀ W1 W2, Below W0.heap.size W0 W1 → KpB w.heap.size W3.heap.size W1 W2 → W2.cell? ⟨W3.heap.size, 0, none⟩ = some (.slice (some ⟨g, o, none⟩) n c1) ∧ ∀ i, i < n → ∃ g' o' z, (some ⟨g, o, none⟩ : Option Addr) = some ⟨g', o', none⟩ ∧ W2.cell? ⟨g', o' + i, none⟩ = some (.int .u64 z) ∧ ∃ y : Nat, z = y ∧ (limbs a)[i]? = some y := fun W1 W2 b1 b2 => by
      refine ⟨(b2.blk (Y1.out.call b1)).cell 0, fun i hi => ?_⟩
      obtain ⟨y, hy⟩ : ∃ y, (limbs a)[i]? = some y := ⟨_, List.getElem?_eq_getElem (by rw [HA.out]; omega)⟩
      obtain ⟨g', o', e, hg', hc⟩ := H3.out i y hy
      exact ⟨g', o', _, e, (((b2.1.cell (p := ⟨g', o' + i, none⟩) hg').trans (b1.cell (p := ⟨g', o' + i, none⟩) (by have := HB0.out.size; simp; omega))).trans (HB0.out.cell (p := ⟨g', o' + i, none⟩) hg')).trans hc, y, rfl, hy⟩
    refine range_ok (by omega) (gf := 177) (lb := #[.pointer (some ⟨W3.heap.size, 0, none⟩)]) rfl (enters_of Tryz.func177 (by kernel_rfl) rfl)
      (back_feeds (Kp := KpB w.heap.size W3.heap.size) (V := fun i z => ∃ y : Nat, z = y ∧ (limbs a)[i]? = some y) 8 (by omega) _ n c1 _ (by omega) (by omega) W0 (KpB.refl _ _) KpB.trans hread) KpB.trans (KpB.put (by have := HB0.out.size; omega) (by have := Z0.out; omega)) (Below.refl _ _) (fun _ => rfl)
      (fun pre W => (∃ l : List UInt8, BuilderAtF 189 5 w.heap.size w.heap.size (.pointer (some ⟨w.heap.size, 0, none⟩)) (Go.Lib.byteCells l) W ∧ l = Lib.decDigits (val ((limbs a).drop (n - pre.length))) ∧ l.length ≤ 9 * (pre.length + 1) ∧ 0 < val ((limbs a).drop (n - pre.length)) ∧ Blk W W3.heap.size #[.slice (some ⟨g, o, none⟩) n c1] 100) ∧ Below w.heap.size W0 W)
      (fun c pre W => False)
      (OwnFrom.and (fun s A B row hs hg hr => by
        obtain ⟨l, h1, h2, h3, h4, h5⟩ := hs
        exact ⟨l, bat_kept h1 hg (fun r e => (hr r e).2), h2, h3, h4, h5.kept hg (fun r e => (hr r e).2)⟩) (ownFrom_below (by have := HB0.out.size; omega) (by have := HB0.out.size; omega)))
      (fun c s A B row hs hg hr => hs)
      ⟨⟨_, I0.out, by simp [HV.out], by simp only [Lib.decDigits_length, List.length_nil]; have := nDigits_le (n := x) (k := 9) (by omega) (by omega); omega, by simp only [List.length_nil, Nat.sub_zero, HV.out]; exact hx2, Y1.out⟩, Below.refl _ _⟩ ?act ?assign ?body ?done ?stop
    case assign =>
      intro l x W K hK
      gi_wp2
      exact hK
    case body =>
      rintro l pre ⟨j, z⟩ W ⟨hj, y, ez, hy⟩ ⟨⟨ds, hA, hds, hlen, hpos, hbx⟩, hB⟩
      dsimp only at hj ez hy
      subst ez
      have hyl : y < 1000000000 := (sm_limbs a).get hy
      have hk1 : 1 ≤ Lib.nDigits y := Lib.nDigits_pos y
      have hk9 : Lib.nDigits y ≤ 9 := nDigits_le (by omega) (by omega)
      have hlen2 : (Lib.decDigits y).length = Lib.nDigits y := Lib.decDigits_length y
      have hz := zeros_from (Lib.nDigits y) hk1 hk9
      have hz' := zeros_from' (Lib.nDigits y) hk1 hk9
      have e1 : n - pre.length = j + 1 := by omega
      rw [e1] at hds hpos
      have HW : Hid (Below w.heap.size w W) := HB0.out.trans hB
      have HAA := hid hA; have HBX := hid hbx; have HBB := hid hB; have HDS := hid hds; have HLN := hid hlen; have HPO := hid hpos; have HJ := hid hj; have HY := hid hy
      have LW : Hid (W3.heap.size < W.heap.size) := Blk.lt hbx
      clear hA hbx hB hds hlen hpos hj hy e1
      gi_wp2_with (first
        | (refine ⟨trivial, ?_⟩; gi_at_call 188
           refine (callsIn_wide.2 (l_fmt _ y (by omega) (HL.out.call HW.out))).mono ?_
           rintro e Wa ⟨rfl, hba⟩
           have HIa : Hid (BuilderAtF 189 5 w.heap.size w.heap.size (.pointer (some ⟨w.heap.size, 0, none⟩)) (Go.Lib.byteCells ds) Wa) := bat_below HAA.out hba
           have HKa : Hid (KpB w.heap.size W3.heap.size W Wa ∧ KeepsFrom W0.heap.size W Wa) := step_below hba LW.out HW.out.size
           have HPL := HIa.out.heap
           obtain ⟨cs, hcs⟩ := HPL
           have HBa : Hid (w.heap.size ≤ Wa.heap.size) := Nat.le_trans HW.out.size hba.size
           have HCa := hid hcs
           clear hba hcs)
        | fail)
      refine ⟨trivial, ?_⟩
      refine (callsIn_wide.2 (Tryz.builder_WriteString w.heap.size w.heap.size (Go.Lib.byteCells ds) _ _ (.inr HIa.out) (by simp only [Go.Lib.byteCells, List.length_map, ByteArray.size, Array.size_replicate]; have := HLN.out; have := HJ.out; omega) HBa.out)).mono ?_
      rintro e Wb ⟨rfl, hib, hbb, hob⟩
      rw [bytes_zeros] at hib
      have hkb := step_write (B := W0.heap.size) hob hbb HCa.out (HKa.out.1.blk HBX.out) (by have := L3.out; omega) (by decide)
      have HKb : Hid (KpB w.heap.size W3.heap.size W Wb ∧ KeepsFrom W0.heap.size W Wb) := ⟨HKa.out.1.trans hkb.1, HKa.out.2.trans hkb.2⟩
      have HIb := hid hib
      obtain ⟨cs2, hcs2⟩ := hib.heap
      have HCb := hid hcs2
      have HBb : Hid (w.heap.size ≤ Wb.heap.size) := Nat.le_trans HBa.out hbb.size
      clear hib hbb hob hkb hcs2
      gi_wp2_with fail
      refine ⟨trivial, ?_⟩
      refine (callsIn_wide.2 (Tryz.builder_WriteString w.heap.size w.heap.size _ _ _ (.inr HIb.out) (by simp only [Go.Lib.byteCells, List.length_map, List.length_append, List.length_replicate, ByteArray.size, List.size_toArray]; have := HLN.out; have := HJ.out; omega) HBb.out)).mono ?_
      rintro e Wc ⟨rfl, hic, hbc, hoc⟩
      rw [bytes_app, List.append_assoc] at hic
      have hkc := step_write (B := W0.heap.size) hoc hbc HCb.out (HKb.out.1.blk HBX.out) (by have := L3.out; omega) (by decide)
      gi_wp2_with fail
      have hpre : n - (pre ++ [(j, (y : Int))]).length = j := by rw [List.length_append, List.length_singleton]; have := HJ.out; omega
      refine ⟨HKb.out.2.trans hkc.2, HKb.out.1.trans hkc.1, ⟨_, hic, ?_, ?_, ?_, (HKb.out.1.trans hkc.1).blk HBX.out⟩, HBB.out.trans ((HKb.out.1.trans hkc.1).1)⟩
      · rw [hpre, dec_limbs (sm_limbs a) HY.out HPO.out, ← HDS.out]; rfl
      · simp only [List.length_append, List.length_replicate, List.length_singleton]; have := HLN.out; omega
      · rw [hpre, val_drop HY.out]; have := HPO.out; omega
    case done =>
      rintro D xs W hD hx ⟨⟨ds, hA, hds, hlen, hpos, hbx⟩, hB⟩ hK
      rw [hx, Nat.sub_self, List.drop_zero, val_limbs] at hds
      have HAA := hid hA; have HBB := hid hB; have HDS := hid hds; have HK := hid hK; have HDD := hid hD
      have HLE : Hid (w.heap.size ≤ W.heap.size) := Nat.le_trans HB0.out.size hB.size
      clear hA hbx hB hds hlen hpos hx hK hD
      gi_wp2_with fail
      refine ⟨trivial, ?_⟩
      refine (callsIn_wide.2 (Tryz.builder_String w.heap.size w.heap.size ds _ (.inr HAA.out) HLE.out)).mono ?_
      rintro e Wz ⟨rfl, -, hbz, hoz⟩
      have hKz : Wz.heap[D]? = some (.deferred (some [])) := hoz D _ HK.out (fun ek => by cases ek; have := HB0.out.size; have := HDD.out; have := L3.out; have := Z0.out; omega) (fun c fz ec => by cases ec)
      have HKz := hid hKz
      have HBz : Hid (Below w.heap.size w Wz) := (HB0.out.trans HBB.out).trans hbz
      clear hoz hKz hbz
      gi_wp2_with fail
      refine marks_end HKz.out (v := .string ⟨ds.toArray⟩) (by simp [results, Tryz.results161, go_sem]) ⟨by rw [HDS.out], ?_⟩
      exact HBz.out.trans (belowK_b (w := w) (Nat.le_refl _) _ D _ _ (by have := HDD.out; have := L3.out; have := Z0.out; omega) HKz.out rfl rfl)
    case stop =>
      rintro D c pre W hD - h
      exact h.elim
end Go.Proofs.YtikfgddgfddbaaaGreatDoor

/- Walks: nat.first, nat.result, nat.pair. -/
namespace Go.Proofs.YtikfgddgfddbaaaGreatDoor
open Go.RowKit Go.Shelf
open Go.Lib (decDigits nDigits)
set_option linter.unusedVariables false

def firstE (x y : Int) : Int := if x = 0 then y else x

set_option maxRecDepth 100000 in
set_option maxHeartbeats 1000000 in
theorem n_first (w : World) (g : Nat) (x y : Int) (c0 : w.cell? ⟨g, 0, none⟩ = some (.int .i64 x)) (c1 : w.cell? ⟨g, 1, none⟩ = some (.int .i64 y)) :
    Calls Tryz.prog 92 #[.slice (some ⟨g, 0, none⟩) 2 2] w fun e w' => e = .returned (.int .i64 (firstE x y)) ∧ w = w' := by
  go_enter Tryz.func92, Tryz.ntmps92
  go_wp2_with fail
  go_loopw [8, 5] (fun i q wr => ∃ k : Nat, i = .int .i64 k ∧ k ≤ 2 ∧ Hid ((1 ≤ k → x = 0) ∧ (2 ≤ k → y = 0)) ∧ w = wr) (fun i _ _ => (2 - RowKit.intOf i).toNat)
  case atStart => exact ⟨0, rfl, by omega, ⟨fun h => by omega, fun h => by omega⟩, rfl⟩
  case round =>
    obtain ⟨k, rfl, hk, hz, rfl⟩ := hrel
    have hk3 : k = 0 ∨ k = 1 ∨ k = 2 := by omega
    rcases hk3 with rfl | rfl | rfl
    · by_cases hx : x = 0
      · subst hx
        go_wp2_with fail
        go_roundw
        case rel => exact ⟨1, rfl, by omega, ⟨fun _ => by simp, fun h => by omega⟩, by first | rfl | trivial⟩
        case measure => simp [RowKit.intOf]
      · have q0 : (x == 0) = false := by simpa using hx
        have q1 : (x != 0) = true := by simpa using hx
        go_wp2_with fail
        go_ret
        exact ⟨by rw [firstE, if_neg hx]; rfl, rfl⟩
    · have hx := hz.out.1 (Nat.le_refl _)
      subst hx
      by_cases hy : y = 0
      · subst hy
        go_wp2_with fail
        go_roundw
        case rel => exact ⟨2, rfl, by omega, ⟨fun _ => by simp, fun _ => by simp⟩, by first | rfl | trivial⟩
        case measure => simp [RowKit.intOf]
      · have q0 : (y == 0) = false := by simpa using hy
        have q1 : (y != 0) = true := by simpa using hy
        go_wp2_with fail
        go_ret
        exact ⟨by rw [firstE, if_pos rfl]; rfl, rfl⟩
    · have hx := hz.out.1 (by omega)
      have hy := hz.out.2 (Nat.le_refl _)
      subst hx; subst hy
      go_wp2_with fail
      go_ret
      exact ⟨by rw [firstE, if_pos rfl]; rfl, rfl⟩

/-- The text of a result, and its error. -/
def resB (n : Nat) : ByteArray := if 4000 < nDigits n then ⟨#[]⟩ else numB n
theorem resS_eq (n : Nat) : resS n = .string (resB n) := by unfold resS resB; split <;> rfl

set_option maxRecDepth 100000 in
set_option maxHeartbeats 1000000 in
theorem n_result (w : World) (v : Value) (n : Nat) (h : IsN .u64 w v n) (hl : (limbs n).length ≤ 1000000) (hL : Lay w) :
    Calls Tryz.prog 127 #[v] w fun e w' => e = .returned (.tuple #[.string (resB n), .int .i64 (resE n)]) ∧ Below w.heap.size w w' := by
  obtain ⟨a, c, rfl, _⟩ := h.openI
  have H := hid h; have HL := hid hl; have HY := hid hL
  have hbd := nDigits_bound hl (by omega)
  obtain ⟨D, hD⟩ : ∃ D, nDigits n = D := ⟨_, rfl⟩
  have P := hid (l_Digits w _ n h hL hl)
  rw [hD] at P hbd
  by_cases hlong : 4000 < D
  · have e1 : resB n = ⟨#[]⟩ := if_pos (by omega)
    have e2 : resE n = 5 := resE_long (by omega)
    have q0 : decide ((4000 : Int) < (D : Int)) = true := by simp; omega
    rw [e1, e2]
    clear hlong h hl hL e1 e2 hD
    go_enter Tryz.func127, Tryz.ntmps127
    go_wp2_with (first
      | (go_at_call 160; refine P.out.mono ?_; rintro e w1 ⟨rfl, hb1⟩)
      | fail)
    go_ret2
    exact ⟨rfl, hb1⟩
  · have e1 : resB n = numB n := if_neg (by omega)
    have e2 : resE n = 0 := resE_ok (by omega)
    have q0 : decide ((4000 : Int) < (D : Int)) = false := by simp; omega
    rw [e1, e2]
    clear hlong h hl hL e1 e2 hD
    go_enter Tryz.func127, Tryz.ntmps127
    go_wp2_with (first
      | (go_at_call 160; refine P.out.mono ?_; rintro e w1 ⟨rfl, hb1⟩
         have y1 := hid hb1; clear hb1)
      | (go_at_call 161; refine (l_String _ _ n (H.out.call y1.out) (HY.out.call y1.out) HL.out).mono ?_; rintro e w2 ⟨rfl, hb2⟩
         have y2 := hid (bnext y1.out hb2); clear hb2)
      | fail)
    go_ret2
    exact ⟨rfl, y2.out⟩
end Go.Proofs.YtikfgddgfddbaaaGreatDoor

/- Walks: the program's limbs: Add. -/
namespace Go.Proofs.YtikfgddgfddbaaaGreatDoor
open Go.RowKit
set_option linter.unusedVariables false

theorem room_nat (n : Nat) (hn : n ≤ 3000000) (W : World) : (Instr.makeSlice 100 (.int .i64 0) (.int .i64 (n : Int))).run Tryz.prog W = .ok (.slice (some ⟨W.heap.size, 0, none⟩) 0 n) (W.alloc (.cells (madeCells #[.int .u64 0] n) 112)) :=
  run_make_room (P := Tryz.prog) 100 112 (.int .u64 0) 8 Tryz.underlying100 (by kernel_rfl) rfl .i64 .i64 n (by omega) (by omega) W

theorem owns_room (w : World) (n : Nat) (hn : n ≤ 3000000) : (w.alloc (.cells (madeCells #[.int .u64 0] n) 112)).ownsRow w.heap.size 112 1 (.slice (some ⟨w.heap.size, 0, none⟩) 0 n) 0 [] :=
  World.ownsRow_made w _ n (Nat.le_refl _) (by unfold maxLen; omega) (by have := size_madeCells #[Value.int .u64 0] n; simpa using this)

set_option maxHeartbeats 4000000 in
theorem l_Add_ge (w : World) (v u : Value) (a b : Nat) (ha : IsN .u64 w v a) (hb : IsN .u64 w u b) (hle : (limbs b).length ≤ (limbs a).length) (hla : (limbs a).length ≤ 1000000) (hlb : (limbs b).length ≤ 1000000) :
    Calls Tryz.prog 150 #[v, u] w fun e w' => RetN .u64 (a + b) e w' ∧ Below w.heap.size w w' := by
  obtain ⟨i0, hi, hz0, hz1, hz2⟩ := info_parts info_u64
  obtain ⟨a1, c1, rfl, h1, h2, h3⟩ := ha.openI
  obtain ⟨a2, c2, rfl, k1, k2, k3⟩ := hb.openI
  have H3 := hid h3; have K3 := hid k3; clear h3 k3 ha hb
  obtain ⟨n, ea⟩ : ∃ n, (limbs a).length = n := ⟨_, rfl⟩
  obtain ⟨m, eb⟩ : ∃ m, (limbs b).length = m := ⟨_, rfl⟩
  rw [ea] at h1 hla hle ⊢
  rw [eb] at k1 hlb hle ⊢
  have HA := hid ea; have HB := hid eb
  clear ea eb
  have q0 : decide (n < m) = false := by simp; omega
  have hmk : ∀ W : World, (Instr.makeSlice 100 (.int .i64 0) (.int .i64 ((n : Int) + 1))).run Tryz.prog W = .ok (.slice (some ⟨W.heap.size, 0, none⟩) 0 (n + 1)) (W.alloc (.cells (madeCells #[.int .u64 0] (n + 1)) 112)) := fun W => by
    have := room_nat (n + 1) (by omega) W
    rwa [Int.natCast_add] at this
  have hmn : m ≤ n := by omega
  clear hle
  go_enter Tryz.func150, Tryz.ntmps150
  go_wp2_with fail
  clear hmk q0
  go_loopw [5, 6, 7, 8, 22] (fun o cc jj nn ii wr => ∃ (s : List Nat) (c : Nat), ii = .int .i64 s.length ∧ cc = .int .u64 c ∧ c ≤ 1 ∧ s.length ≤ n ∧ Hid (PlusI a b s c) ∧ Hid (wr.ownsRow w.heap.size 112 1 o s.length (ints .u64 s)) ∧ Hid (Below w.heap.size w wr))
    (fun _ _ _ _ ii _ => n - (intOf ii).toNat)
  case atStart => exact ⟨[], 0, rfl, rfl, by omega, by simp, PlusI.start a b, owns_room w (n + 1) (by omega), (Below.refl _ _).alloc (Nat.le_refl _) _⟩
  case round =>
    obtain ⟨s, c, rfl, rfl, hc1, hs1, hP, hO, hB⟩ := hrel
    obtain ⟨ao, co, rfl⟩ := owns_ex hO.out
    by_cases hA : s.length < n
    · obtain ⟨x, hx⟩ : ∃ x, (limbs a)[s.length]? = some x := ⟨_, List.getElem?_eq_getElem (by rw [HA.out]; exact hA)⟩
      obtain ⟨g, og, rfl, hg, hc⟩ := H3.out _ x hx
      have hc' := (hB.out.cell (p := ⟨g, og + s.length, none⟩) hg).trans hc
      have hxl := (sm_limbs a).get hx
      have HX := hid hx; clear hx hc
      have HN := hid (hP.out.next (by rw [HA.out]; exact .inl hA))
      by_cases hB' : s.length < m
      · obtain ⟨y, hy⟩ : ∃ y, (limbs b)[s.length]? = some y := ⟨_, List.getElem?_eq_getElem (by rw [HB.out]; exact hB')⟩
        obtain ⟨g', og', rfl, hg', hd⟩ := K3.out _ y hy
        have hd' := (hB.out.cell (p := ⟨g', og' + s.length, none⟩) hg').trans hd
        have hyl := (sm_limbs b).get hy
        rw [getD_of HX.out, getD_of hy] at HN
        clear hy hd
        go_wp2_with (at_builtin; refine wpList_append_own _ rfl _ _ 100 rfl w.heap.size 112 i0 (.int .u64 0) 1 8 Tryz.underlying100 hi hz0 hz1 hz2 rfl (by decide) _ s.length _ rfl (hO.out.alloc _) ⟨wr.heap.size, 0, none⟩ 1 1 [.int .u64 (((x : Int) + (c : Int) + (y : Int)) % 1000000000)] rfl rfl (cell_one_new wr (.int .u64 (((x : Int) + (c : Int) + (y : Int)) % 1000000000)) 112) (by simp [Value.oneCell']) (by unfold maxLen; omega) (by omega) (by have := hB.out.size; simp; omega) ?_; intro v' w3 hown3 hgrow3 _; have HO3 := hid hown3; have HG3 := hid hgrow3; clear hown3 hgrow3)
        have hz : (((x : Int) + (c : Int) + (y : Int)) % 1000000000) = (((x + c + y) % 1000000000 : Nat) : Int) := by omega
        rw [hz] at HO3
        obtain ⟨n1, n2⟩ := own_next hO.out hB.out HO3.out HG3.out
        have N1 := hid n1; have N2 := hid n2; clear n1 n2 hz HO3 HG3
        obtain ⟨a3, k3, rfl⟩ := owns_ex N1.out
        go_wp2_with fail
        go_roundw
        case rel => exact ⟨s ++ [(x + c + y) % 1000000000], (x + c + y) / 1000000000, by simp, by go_num, HN.out.c1, by simp <;> omega, HN, N1, N2⟩
        case measure => simp [intOf] <;> omega
      · rw [getD_of HX.out, getD_none (by rw [HB.out]; omega)] at HN
        go_wp2_with (at_builtin; refine wpList_append_own _ rfl _ _ 100 rfl w.heap.size 112 i0 (.int .u64 0) 1 8 Tryz.underlying100 hi hz0 hz1 hz2 rfl (by decide) _ s.length _ rfl (hO.out.alloc _) ⟨wr.heap.size, 0, none⟩ 1 1 [.int .u64 (((x : Int) + (c : Int)) % 1000000000)] rfl rfl (cell_one_new wr (.int .u64 (((x : Int) + (c : Int)) % 1000000000)) 112) (by simp [Value.oneCell']) (by unfold maxLen; omega) (by omega) (by have := hB.out.size; simp; omega) ?_; intro v' w3 hown3 hgrow3 _; have HO3 := hid hown3; have HG3 := hid hgrow3; clear hown3 hgrow3)
        have hz : (((x : Int) + (c : Int)) % 1000000000) = (((x + c + 0) % 1000000000 : Nat) : Int) := by omega
        rw [hz] at HO3
        obtain ⟨n1, n2⟩ := own_next hO.out hB.out HO3.out HG3.out
        have N1 := hid n1; have N2 := hid n2; clear n1 n2 hz HO3 HG3
        obtain ⟨a3, k3, rfl⟩ := owns_ex N1.out
        go_wp2_with fail
        go_roundw
        case rel => exact ⟨s ++ [(x + c + 0) % 1000000000], (x + c + 0) / 1000000000, by simp, by go_num, HN.out.c1, by simp <;> omega, HN, N1, N2⟩
        case measure => simp [intOf] <;> omega
    · obtain rfl : s.length = n := by omega
      rcases (show c = 0 ∨ c = 1 by omega) with rfl | rfl
      · have hs := hid (hP.out.done (by rw [HA.out]; exact hA) (by rw [HB.out]; omega) rfl)
        go_wp2_with fail
        go_ret
        exact ⟨⟨_, rfl, owns_isN hO.out (by rw [hs.out])⟩, hB.out⟩
      · have HN := hid (hP.out.next (by exact .inr (.inr (by omega))))
        rw [getD_none (by rw [HA.out]; omega), getD_none (by rw [HB.out]; omega)] at HN
        have HD := hid (HN.out.done (by simp [HA.out]) (by simp [HB.out]; omega) rfl)
        go_wp2_with (at_builtin; refine wpList_append_own _ rfl _ _ 100 rfl w.heap.size 112 i0 (.int .u64 0) 1 8 Tryz.underlying100 hi hz0 hz1 hz2 rfl (by decide) _ s.length _ rfl (hO.out.alloc _) ⟨wr.heap.size, 0, none⟩ 1 1 [.int .u64 (1)] rfl rfl (cell_one_new wr (.int .u64 (1)) 112) (by simp [Value.oneCell']) (by unfold maxLen; omega) (by omega) (by have := hB.out.size; simp; omega) ?_; intro v' w3 hown3 hgrow3 _; have HO3 := hid hown3; have HG3 := hid hgrow3; clear hown3 hgrow3)
        have hz : (1) = (((0 + 1 + 0) % 1000000000 : Nat) : Int) := by omega
        rw [hz] at HO3
        obtain ⟨n1, n2⟩ := own_next hO.out hB.out HO3.out HG3.out
        have N1 := hid n1; have N2 := hid n2; clear n1 n2 hz HO3 HG3
        obtain ⟨a3, k3, rfl⟩ := owns_ex N1.out
        go_wp2_with fail
        go_ret
        exact ⟨⟨_, rfl, owns_isN N1.out (by rw [HD.out])⟩, N2.out⟩

set_option maxHeartbeats 4000000 in
theorem l_Add_lt (w : World) (v u : Value) (a b : Nat) (ha : IsN .u64 w v a) (hb : IsN .u64 w u b) (hle : (limbs a).length < (limbs b).length) (hla : (limbs a).length ≤ 1000000) (hlb : (limbs b).length ≤ 1000000) :
    Calls Tryz.prog 150 #[v, u] w fun e w' => RetN .u64 (a + b) e w' ∧ Below w.heap.size w w' := by
  obtain ⟨i0, hi, hz0, hz1, hz2⟩ := info_parts info_u64
  obtain ⟨a1, c1, rfl, h1, h2, h3⟩ := hb.openI
  obtain ⟨a2, c2, rfl, k1, k2, k3⟩ := ha.openI
  have H3 := hid h3; have K3 := hid k3; clear h3 k3 ha hb
  obtain ⟨n, ea⟩ : ∃ n, (limbs b).length = n := ⟨_, rfl⟩
  obtain ⟨m, eb⟩ : ∃ m, (limbs a).length = m := ⟨_, rfl⟩
  rw [ea] at h1 hlb hle ⊢
  rw [eb] at k1 hla hle ⊢
  have HA := hid ea; have HB := hid eb
  clear ea eb
  have q0 : decide (m < n) = true := by simp; omega
  have hmk : ∀ W : World, (Instr.makeSlice 100 (.int .i64 0) (.int .i64 ((n : Int) + 1))).run Tryz.prog W = .ok (.slice (some ⟨W.heap.size, 0, none⟩) 0 (n + 1)) (W.alloc (.cells (madeCells #[.int .u64 0] (n + 1)) 112)) := fun W => by
    have := room_nat (n + 1) (by omega) W
    rwa [Int.natCast_add] at this
  have hmn : m ≤ n := by omega
  clear hle
  go_enter Tryz.func150, Tryz.ntmps150
  go_wp2_with fail
  clear hmk q0
  go_loopw [5, 6, 7, 8, 22] (fun o cc jj nn ii wr => ∃ (s : List Nat) (c : Nat), ii = .int .i64 s.length ∧ cc = .int .u64 c ∧ c ≤ 1 ∧ s.length ≤ n ∧ Hid (PlusI b a s c) ∧ Hid (wr.ownsRow w.heap.size 112 1 o s.length (ints .u64 s)) ∧ Hid (Below w.heap.size w wr))
    (fun _ _ _ _ ii _ => n - (intOf ii).toNat)
  case atStart => exact ⟨[], 0, rfl, rfl, by omega, by simp, PlusI.start b a, owns_room w (n + 1) (by omega), (Below.refl _ _).alloc (Nat.le_refl _) _⟩
  case round =>
    obtain ⟨s, c, rfl, rfl, hc1, hs1, hP, hO, hB⟩ := hrel
    obtain ⟨ao, co, rfl⟩ := owns_ex hO.out
    by_cases hA : s.length < n
    · obtain ⟨x, hx⟩ : ∃ x, (limbs b)[s.length]? = some x := ⟨_, List.getElem?_eq_getElem (by rw [HA.out]; exact hA)⟩
      obtain ⟨g, og, rfl, hg, hc⟩ := H3.out _ x hx
      have hc' := (hB.out.cell (p := ⟨g, og + s.length, none⟩) hg).trans hc
      have hxl := (sm_limbs b).get hx
      have HX := hid hx; clear hx hc
      have HN := hid (hP.out.next (by rw [HA.out]; exact .inl hA))
      by_cases hB' : s.length < m
      · obtain ⟨y, hy⟩ : ∃ y, (limbs a)[s.length]? = some y := ⟨_, List.getElem?_eq_getElem (by rw [HB.out]; exact hB')⟩
        obtain ⟨g', og', rfl, hg', hd⟩ := K3.out _ y hy
        have hd' := (hB.out.cell (p := ⟨g', og' + s.length, none⟩) hg').trans hd
        have hyl := (sm_limbs a).get hy
        rw [getD_of HX.out, getD_of hy] at HN
        clear hy hd
        go_wp2_with (at_builtin; refine wpList_append_own _ rfl _ _ 100 rfl w.heap.size 112 i0 (.int .u64 0) 1 8 Tryz.underlying100 hi hz0 hz1 hz2 rfl (by decide) _ s.length _ rfl (hO.out.alloc _) ⟨wr.heap.size, 0, none⟩ 1 1 [.int .u64 (((x : Int) + (c : Int) + (y : Int)) % 1000000000)] rfl rfl (cell_one_new wr (.int .u64 (((x : Int) + (c : Int) + (y : Int)) % 1000000000)) 112) (by simp [Value.oneCell']) (by unfold maxLen; omega) (by omega) (by have := hB.out.size; simp; omega) ?_; intro v' w3 hown3 hgrow3 _; have HO3 := hid hown3; have HG3 := hid hgrow3; clear hown3 hgrow3)
        have hz : (((x : Int) + (c : Int) + (y : Int)) % 1000000000) = (((x + c + y) % 1000000000 : Nat) : Int) := by omega
        rw [hz] at HO3
        obtain ⟨n1, n2⟩ := own_next hO.out hB.out HO3.out HG3.out
        have N1 := hid n1; have N2 := hid n2; clear n1 n2 hz HO3 HG3
        obtain ⟨a3, k3, rfl⟩ := owns_ex N1.out
        go_wp2_with fail
        go_roundw
        case rel => exact ⟨s ++ [(x + c + y) % 1000000000], (x + c + y) / 1000000000, by simp, by go_num, HN.out.c1, by simp <;> omega, HN, N1, N2⟩
        case measure => simp [intOf] <;> omega
      · rw [getD_of HX.out, getD_none (by rw [HB.out]; omega)] at HN
        go_wp2_with (at_builtin; refine wpList_append_own _ rfl _ _ 100 rfl w.heap.size 112 i0 (.int .u64 0) 1 8 Tryz.underlying100 hi hz0 hz1 hz2 rfl (by decide) _ s.length _ rfl (hO.out.alloc _) ⟨wr.heap.size, 0, none⟩ 1 1 [.int .u64 (((x : Int) + (c : Int)) % 1000000000)] rfl rfl (cell_one_new wr (.int .u64 (((x : Int) + (c : Int)) % 1000000000)) 112) (by simp [Value.oneCell']) (by unfold maxLen; omega) (by omega) (by have := hB.out.size; simp; omega) ?_; intro v' w3 hown3 hgrow3 _; have HO3 := hid hown3; have HG3 := hid hgrow3; clear hown3 hgrow3)
        have hz : (((x : Int) + (c : Int)) % 1000000000) = (((x + c + 0) % 1000000000 : Nat) : Int) := by omega
        rw [hz] at HO3
        obtain ⟨n1, n2⟩ := own_next hO.out hB.out HO3.out HG3.out
        have N1 := hid n1; have N2 := hid n2; clear n1 n2 hz HO3 HG3
        obtain ⟨a3, k3, rfl⟩ := owns_ex N1.out
        go_wp2_with fail
        go_roundw
        case rel => exact ⟨s ++ [(x + c + 0) % 1000000000], (x + c + 0) / 1000000000, by simp, by go_num, HN.out.c1, by simp <;> omega, HN, N1, N2⟩
        case measure => simp [intOf] <;> omega
    · obtain rfl : s.length = n := by omega
      rcases (show c = 0 ∨ c = 1 by omega) with rfl | rfl
      · have hs := hid (hP.out.done (by rw [HA.out]; exact hA) (by rw [HB.out]; omega) rfl)
        go_wp2_with fail
        go_ret
        exact ⟨⟨_, rfl, owns_isN hO.out (by rw [hs.out, Nat.add_comm])⟩, hB.out⟩
      · have HN := hid (hP.out.next (by exact .inr (.inr (by omega))))
        rw [getD_none (by rw [HA.out]; omega), getD_none (by rw [HB.out]; omega)] at HN
        have HD := hid (HN.out.done (by simp [HA.out]) (by simp [HB.out]; omega) rfl)
        go_wp2_with (at_builtin; refine wpList_append_own _ rfl _ _ 100 rfl w.heap.size 112 i0 (.int .u64 0) 1 8 Tryz.underlying100 hi hz0 hz1 hz2 rfl (by decide) _ s.length _ rfl (hO.out.alloc _) ⟨wr.heap.size, 0, none⟩ 1 1 [.int .u64 (1)] rfl rfl (cell_one_new wr (.int .u64 (1)) 112) (by simp [Value.oneCell']) (by unfold maxLen; omega) (by omega) (by have := hB.out.size; simp; omega) ?_; intro v' w3 hown3 hgrow3 _; have HO3 := hid hown3; have HG3 := hid hgrow3; clear hown3 hgrow3)
        have hz : (1) = (((0 + 1 + 0) % 1000000000 : Nat) : Int) := by omega
        rw [hz] at HO3
        obtain ⟨n1, n2⟩ := own_next hO.out hB.out HO3.out HG3.out
        have N1 := hid n1; have N2 := hid n2; clear n1 n2 hz HO3 HG3
        obtain ⟨a3, k3, rfl⟩ := owns_ex N1.out
        go_wp2_with fail
        go_ret
        exact ⟨⟨_, rfl, owns_isN N1.out (by rw [HD.out, Nat.add_comm])⟩, N2.out⟩

/-- A sum. -/
theorem l_Add (w : World) (v u : Value) (a b : Nat) (ha : IsN .u64 w v a) (hb : IsN .u64 w u b) (hla : (limbs a).length ≤ 1000000) (hlb : (limbs b).length ≤ 1000000) :
    Calls Tryz.prog 150 #[v, u] w fun e w' => RetN .u64 (a + b) e w' ∧ Below w.heap.size w w' := by
  by_cases h : (limbs b).length ≤ (limbs a).length
  · exact l_Add_ge w v u a b ha hb h hla hlb
  · exact l_Add_lt w v u a b ha hb (by omega) hla hlb
end Go.Proofs.YtikfgddgfddbaaaGreatDoor

/- Walks: the program's limbs: Sub. -/
namespace Go.Proofs.YtikfgddgfddbaaaGreatDoor
open Go.RowKit
set_option linter.unusedVariables false

/-- What the loop of the difference holds where it writes into an array: the limbs s have been written. -/
structure SubA (a b i c : Nat) (o : List Nat) : Prop where
  len : o.length = (limbs a).length
  inv : MinusI a b (o.take i) c

theorem SubA.start (a b : Nat) : SubA a b 0 0 (List.replicate (limbs a).length 0) := ⟨by simp, by rw [List.take_zero]; exact MinusI.start a b⟩

theorem SubA.next {a b i c z c' : Nat} {o : List Nat} (h : SubA a b i c o) (hi : i < (limbs a).length) (hz : (limbs a).getD i 0 + 1000000000 * c' = z + c + (limbs b).getD i 0) (h1 : z < 1000000000) (h2 : c' ≤ 1) : SubA a b (i + 1) c' (o.set i z) := by
  have hl : i < o.length := by rw [h.len]; exact hi
  have hti : (o.take i).length = i := List.length_take_of_le (by omega)
  refine ⟨by rw [List.length_set, h.len], ?_⟩
  have := h.inv.next (z := z) (c' := c') (by rw [hti]; exact hz) h1 h2
  rwa [show (o.set i z).take (i + 1) = o.take i ++ [z] from ?_]
  rw [List.take_succ_eq_append_getElem (by simpa using hl), List.take_set_of_le (Nat.le_refl _)]
  simp

theorem SubA.done {a b c : Nat} {o : List Nat} (h : SubA a b (limbs a).length c o) (hle : b ≤ a) : val o = a - b ∧ Sm o := by
  have ht : o.take (limbs a).length = o := List.take_of_length_le (by rw [h.len]; exact Nat.le_refl _)
  have hi := h.inv
  rw [ht] at hi
  exact ⟨hi.done h.len hle, hi.sm⟩

set_option maxRecDepth 100000 in
set_option maxHeartbeats 4000000 in
theorem l_Sub (w : World) (v u : Value) (a b : Nat) (ha : IsN .u64 w v a) (hb : IsN .u64 w u b) (hle : b ≤ a) (hla : (limbs a).length ≤ 1000000) :
    Calls Tryz.prog 128 #[v, u] w fun e w' => RetN .u64 (a - b) e w' ∧ Below w.heap.size w w' := by
  obtain ⟨a1, c1, rfl, h1, h2, h3⟩ := ha.openI
  obtain ⟨a2, c2, rfl, k1, k2, k3⟩ := hb.openI
  have H3 := hid h3; have K3 := hid k3; clear h3 k3 ha hb
  have hmn := limbs_length_mono hle
  obtain ⟨n, ea⟩ : ∃ n, (limbs a).length = n := ⟨_, rfl⟩
  obtain ⟨m, eb⟩ : ∃ m, (limbs b).length = m := ⟨_, rfl⟩
  rw [ea] at h1 hla hmn ⊢
  rw [eb] at k1 hmn ⊢
  have HA := hid ea; have HB := hid eb; have HL := hid hle
  clear ea eb hle
  have hmk := fun W => make_nat n (by omega) W
  go_enter Tryz.func128, Tryz.ntmps128
  go_wp2_with fail
  clear hmk
  go_loopw [6, 7, 8, 9, 15] (fun cc s7 s8 s9 ii wr => ∃ (i c : Nat) (o : List Nat), ii = .int .i64 i ∧ cc = .int .u64 c ∧ c ≤ 1 ∧ i ≤ n ∧ Hid (SubA a b i c o) ∧ Hid (Arr .u64 112 wr w.heap.size o) ∧ Hid (Below w.heap.size w wr))
    (fun _ _ _ _ ii _ => n - (intOf ii).toNat)
  case atStart => exact ⟨0, 0, _, rfl, rfl, by omega, by omega, SubA.start a b, by rw [HA.out]; exact Arr.made w .u64 112 n, (Below.refl _ _).alloc (Nat.le_refl _) _⟩
  case round =>
    obtain ⟨i, c, o, rfl, rfl, hc1, hin, hS, hO, hB⟩ := hrel
    have hol := hid (show o.length = n from by rw [hS.out.len, HA.out])
    by_cases hA : i < n
    · obtain ⟨x, hx⟩ : ∃ x, (limbs a)[i]? = some x := ⟨_, List.getElem?_eq_getElem (by rw [HA.out]; exact hA)⟩
      obtain ⟨g, og, rfl, hg, hc⟩ := H3.out _ x hx
      have hc' := (hB.out.cell (p := ⟨g, og + i, none⟩) hg).trans hc
      have hxl := (sm_limbs a).get hx
      have HX := hid hx; clear hx hc
      obtain ⟨z0, hz0⟩ : ∃ z, o[i]? = some z := ⟨_, List.getElem?_eq_getElem (by rw [hol.out]; exact hA)⟩
      have d3 := hO.out.cell hz0
      have d4 := hO.out.free i
      clear hz0
      by_cases hB' : i < m
      · obtain ⟨y, hy⟩ : ∃ y, (limbs b)[i]? = some y := ⟨_, List.getElem?_eq_getElem (by rw [HB.out]; exact hB')⟩
        obtain ⟨g', og', rfl, hg', hd⟩ := K3.out _ y hy
        have hd' := (hB.out.cell (p := ⟨g', og' + i, none⟩) hg').trans hd
        have hyl := (sm_limbs b).get hy
        have HY := hid hy; clear hy hd
        by_cases hneg : x < c + y
        · have q1 : decide ((x : Int) < (c : Int) + (y : Int)) = true := by simp; omega
          have HN := hid (hS.out.next (z := x + 1000000000 - (c + y)) (c' := 1) (by rw [HA.out]; exact hA) (by rw [getD_of HX.out, getD_of HY.out]; omega) (by omega) (by omega))
          go_wp2_with fail
          go_roundw
          case rel =>
            have hz : ((x : Int) + 1000000000 - ((c : Int) + y)) = ((x + 1000000000 - (c + y) : Nat) : Int) := by omega
            exact ⟨i + 1, 1, _, by go_num, rfl, by omega, by omega, HN, by rw [hz]; exact hO.out.set i _, below_set hB.out (Nat.le_refl _) _⟩
          case measure => simp [intOf] <;> omega
        · have q1 : decide ((x : Int) < (c : Int) + (y : Int)) = false := by simp; omega
          have HN := hid (hS.out.next (z := x - (c + y)) (c' := 0) (by rw [HA.out]; exact hA) (by rw [getD_of HX.out, getD_of HY.out]; omega) (by omega) (by omega))
          go_wp2_with fail
          go_roundw
          case rel =>
            have hz : ((x : Int) - ((c : Int) + y)) = ((x - (c + y) : Nat) : Int) := by omega
            exact ⟨i + 1, 0, _, by go_num, rfl, by omega, by omega, HN, by rw [hz]; exact hO.out.set i _, below_set hB.out (Nat.le_refl _) _⟩
          case measure => simp [intOf] <;> omega
      · by_cases hneg : x < c
        · have q1 : decide ((x : Int) < (c : Int)) = true := by simp; omega
          have HN := hid (hS.out.next (z := x + 1000000000 - c) (c' := 1) (by rw [HA.out]; exact hA) (by rw [getD_of HX.out, getD_none (by rw [HB.out]; omega)]; omega) (by omega) (by omega))
          go_wp2_with fail
          go_roundw
          case rel =>
            have hz : ((x : Int) + 1000000000 - (c : Int)) = ((x + 1000000000 - c : Nat) : Int) := by omega
            exact ⟨i + 1, 1, _, by go_num, rfl, by omega, by omega, HN, by rw [hz]; exact hO.out.set i _, below_set hB.out (Nat.le_refl _) _⟩
          case measure => simp [intOf] <;> omega
        · have q1 : decide ((x : Int) < (c : Int)) = false := by simp; omega
          have HN := hid (hS.out.next (z := x - c) (c' := 0) (by rw [HA.out]; exact hA) (by rw [getD_of HX.out, getD_none (by rw [HB.out]; omega)]; omega) (by omega) (by omega))
          go_wp2_with fail
          go_roundw
          case rel =>
            have hz : ((x : Int) - (c : Int)) = ((x - c : Nat) : Int) := by omega
            exact ⟨i + 1, 0, _, by go_num, rfl, by omega, by omega, HN, by rw [hz]; exact hO.out.set i _, below_set hB.out (Nat.le_refl _) _⟩
          case measure => simp [intOf] <;> omega
    · obtain rfl : i = n := by omega
      have hv := hid (show val o = a - b ∧ Sm o from SubA.done (by have := hS.out; rw [← HA.out] at this; exact this) HL.out)
      have hr := hid (show Row wr (.slice (some ⟨w.heap.size, 0, none⟩) i i) (ints .u64 o) from by
        have := hO.out.row (n := i) (c := i) (by rw [hol.out]; exact Nat.le_refl _) (Nat.le_refl _) (by unfold maxLen; omega)
        rwa [List.take_of_length_le (by rw [hol.out]; exact Nat.le_refl _)] at this)
      go_wp2_with (go_at_call 136; refine (l_trim _ _ o hv.out.2 hr.out).mono ?_; rintro e w1 ⟨⟨v1, rfl, hv1⟩, rfl⟩)
      go_ret
      exact ⟨⟨v1, rfl, by rw [← hv.out.1]; exact hv1⟩, hB.out⟩
end Go.Proofs.YtikfgddgfddbaaaGreatDoor

/- Walks: nat.pair; nat.Add, Sub, Mul, Cmp. -/
namespace Go.Proofs.YtikfgddgfddbaaaGreatDoor
open Go.RowKit Go.Shelf
open Go.Lib (decDigits nDigits)
set_option linter.unusedVariables false

/-- The text and the error of an operation on two texts that gives R with the error x. -/
def pairB (R : ByteArray) (s t : ByteArray) : ByteArray := if errN s.data.toList = 0 ∧ errN t.data.toList = 0 then R else ⟨#[]⟩
def pairE (x : Int) (s t : ByteArray) : Int := if errN s.data.toList = 0 then (if errN t.data.toList = 0 then x else errN t.data.toList) else errN s.data.toList

theorem errN_dig {s : ByteArray} (h : errN s.data.toList = 0) : allDig s.data.toList ∧ s.size ≤ 4000 ∧ (limbs (bN s)).length ≤ 1000 := by
  obtain ⟨n, hn, h4⟩ := errN_zero.1 h
  have hd : allDig s.data.toList := by rw [hn]; exact allDig_dec n
  have hs : s.size ≤ 4000 := by
    have e : s.data.toList.length = s.size := Array.length_toList
    rw [← e, hn, Lib.decDigits_length]; exact h4
  refine ⟨hd, hs, ?_⟩
  have e : s.data.toList.length = s.size := Array.length_toList
  exact dv_limbs hd (by omega)

set_option maxRecDepth 100000 in
set_option maxHeartbeats 1000000 in
theorem n_pair (w : World) (s t : ByteArray) (F : Nat) (R : ByteArray) (x : Int) (hs : s.size ≤ 1000000) (ht : t.size ≤ 1000000) (hL : Lay w)
    (hen : ∀ args w, (callFunc F args).run Tryz.prog w = .ok (.enter F args) w)
    (hF : ∀ W v u, errN s.data.toList = 0 → errN t.data.toList = 0 → IsN .u64 W v (bN s) → IsN .u64 W u (bN t) → Lay W → Calls Tryz.prog F #[v, u] W fun e w' => e = .returned (.tuple #[.string R, .int .i64 x]) ∧ Below W.heap.size W w') :
    Calls Tryz.prog 125 #[.string s, .string t, .func (.func F) #[] #[]] w fun e w' => e = .returned (.tuple #[.string (pairB R s t), .int .i64 (pairE x s t)]) ∧ Below w.heap.size w w' := by
  have HS := fun W => hid (n_Check W s (by omega))
  have HT := fun W => hid (n_Check W t (by omega))
  have HL := hid hL
  have HF := hid hF
  clear hL hF
  by_cases h1 : errN s.data.toList = 0
  · by_cases h2 : errN t.data.toList = 0
    · have e1 : pairB R s t = R := if_pos ⟨h1, h2⟩
      have e2 : pairE x s t = x := by rw [pairE, if_pos h1, if_pos h2]
      rw [e1, e2]
      rw [h1] at HS
      rw [h2] at HT
      obtain ⟨d1, d2, -⟩ := errN_dig h1
      obtain ⟨d3, d4, -⟩ := errN_dig h2
      have P1 := fun W => hid (l_Parse W s d1 (by omega))
      have P2 := fun W => hid (l_Parse W t d3 (by omega))
      have H1 := hid h1; have H2 := hid h2
      have fe : firstE 0 0 = 0 := rfl
      clear h1 h2 d1 d2 d3 d4 e1 e2
      go_enter Tryz.func125, Tryz.ntmps125
      go_wp2_with fail
      refine (HS _).out.mono ?_; rintro e w1 ⟨rfl, hb1⟩
      have y1 := hid hb1; clear hb1
      go_wp2_with fail
      refine (HT _).out.mono ?_; rintro e w2 ⟨rfl, hb2⟩
      have y2 := hid (bnext y1.out hb2); clear hb2
      go_wp2_with fail
      refine (n_first _ _ 0 0 ?_ ?_).mono ?_
      · exact (Blk.new _ _ _).cell 0
      · exact (Blk.new _ _ _).cell 1
      rintro e w3 ⟨rfl, rfl⟩
      have y3 := hid (y2.out.alloc y2.out.size (.cells #[.int .i64 0, .int .i64 0] 27))
      rw [fe]
      go_wp2_with fail
      refine (P1 _).out.mono ?_; rintro e w4 ⟨⟨v4, rfl, hv4⟩, hb4⟩
      have y4 := hid (bnext y3.out hb4); have N4 := hid hv4; clear hb4 hv4
      go_wp2_with fail
      refine (P2 _).out.mono ?_; rintro e w5 ⟨⟨v5, rfl, hv5⟩, hb5⟩
      have y5 := hid (bnext y4.out hb5); have N5 := hid (N4.out.call hb5); have D5 := hid hv5; clear hb5 hv5
      go_wp2_with fail
      refine (HF.out _ _ _ H1.out H2.out N5.out D5.out (HL.out.call y5.out)).mono ?_; rintro e w6 ⟨rfl, hb6⟩
      have y6 := hid (bnext y5.out hb6); clear hb6
      go_wp2_with fail
      go_ret2
      exact ⟨rfl, y6.out⟩
    · have e1 : pairB R s t = ⟨#[]⟩ := if_neg (fun h => h2 h.2)
      have e2 : pairE x s t = errN t.data.toList := by rw [pairE, if_pos h1, if_neg h2]
      rw [e1, e2]
      rw [h1] at HS
      obtain ⟨y, hy⟩ : ∃ y, errN t.data.toList = y := ⟨_, rfl⟩
      rw [hy] at HT ⊢ h2
      have fe : firstE 0 y = y := rfl
      have q0 : (y == 0) = false := by simpa using h2
      have q1 : (y != 0) = true := by simpa using h2
      clear h1 e1 e2 hy
      go_enter Tryz.func125, Tryz.ntmps125
      go_wp2_with fail
      refine (HS _).out.mono ?_; rintro e w1 ⟨rfl, hb1⟩
      have y1 := hid hb1; clear hb1
      go_wp2_with fail
      refine (HT _).out.mono ?_; rintro e w2 ⟨rfl, hb2⟩
      have y2 := hid (bnext y1.out hb2); clear hb2
      go_wp2_with fail
      refine (n_first _ _ 0 y ?_ ?_).mono ?_
      · exact (Blk.new _ _ _).cell 0
      · exact (Blk.new _ _ _).cell 1
      rintro e w3 ⟨rfl, rfl⟩
      have y3 := hid (y2.out.alloc y2.out.size (.cells #[.int .i64 0, .int .i64 y] 27))
      rw [fe]
      go_wp2_with fail
      go_ret2
      exact ⟨rfl, y3.out⟩
  · have e1 : pairB R s t = ⟨#[]⟩ := if_neg (fun h => h1 h.1)
    have e2 : pairE x s t = errN s.data.toList := by rw [pairE, if_neg h1]
    rw [e1, e2]
    obtain ⟨y, hy⟩ : ∃ y, errN s.data.toList = y := ⟨_, rfl⟩
    obtain ⟨z, hz⟩ : ∃ z, errN t.data.toList = z := ⟨_, rfl⟩
    rw [hy] at HS ⊢ h1
    rw [hz] at HT
    have fe : firstE y z = y := if_neg h1
    have q0 : (y == 0) = false := by simpa using h1
    have q1 : (y != 0) = true := by simpa using h1
    clear e1 e2 hy hz
    go_enter Tryz.func125, Tryz.ntmps125
    go_wp2_with fail
    refine (HS _).out.mono ?_; rintro e w1 ⟨rfl, hb1⟩
    have y1 := hid hb1; clear hb1
    go_wp2_with fail
    refine (HT _).out.mono ?_; rintro e w2 ⟨rfl, hb2⟩
    have y2 := hid (bnext y1.out hb2); clear hb2
    go_wp2_with fail
    refine (n_first _ _ y z ?_ ?_).mono ?_
    · exact (Blk.new _ _ _).cell 0
    · exact (Blk.new _ _ _).cell 1
    rintro e w3 ⟨rfl, rfl⟩
    have y3 := hid (y2.out.alloc y2.out.size (.cells #[.int .i64 y, .int .i64 z] 27))
    rw [fe]
    go_wp2_with fail
    go_ret2
    exact ⟨rfl, y3.out⟩
end Go.Proofs.YtikfgddgfddbaaaGreatDoor

/- Walks: nat.Add, Mul, Sub, Cmp. -/
namespace Go.Proofs.YtikfgddgfddbaaaGreatDoor
open Go.RowKit Go.Shelf
open Go.Lib (decDigits nDigits)
set_option linter.unusedVariables false

/-- An operation on two texts: the text, the error. -/
def natB (f : Nat → Nat → Nat) (s t : ByteArray) : ByteArray := pairB (resB (f (bN s) (bN t))) s t
def natE (f : Nat → Nat → Nat) (s t : ByteArray) : Int := pairE (resE (f (bN s) (bN t))) s t

theorem len_add {a b k l : Nat} (ha : (limbs a).length ≤ k) (hb : (limbs b).length ≤ l) : (limbs (a + b)).length ≤ k + l + 1 := by
  have h1 := limbs_length_le.1 ha
  have h2 := limbs_length_le.1 hb
  refine limbs_length_le.2 ?_
  have h3 : 1000000000 ^ k ≤ 1000000000 ^ (k + l) := Nat.pow_le_pow_right (by omega) (by omega)
  have h4 : 1000000000 ^ l ≤ 1000000000 ^ (k + l) := Nat.pow_le_pow_right (by omega) (by omega)
  rw [Nat.pow_succ]
  omega
theorem len_mul {a b k l : Nat} (ha : (limbs a).length ≤ k) (hb : (limbs b).length ≤ l) : (limbs (a * b)).length ≤ k + l := by
  have h1 := limbs_length_le.1 ha
  have h2 := limbs_length_le.1 hb
  refine limbs_length_le.2 ?_
  rw [Nat.pow_add]
  exact Nat.mul_lt_mul'' h1 h2
theorem len_sub {a b k l : Nat} (ha : (limbs a).length ≤ k) (hb : (limbs b).length ≤ l) : (limbs (a - b)).length ≤ k :=
  Nat.le_trans (limbs_length_mono (Nat.sub_le a b)) ha

set_option maxRecDepth 100000 in
set_option maxHeartbeats 1000000 in
theorem n_Add1 (w : World) (v u : Value) (a b : Nat) (ha : IsN .u64 w v a) (hb : IsN .u64 w u b) (hla : (limbs a).length ≤ 1000) (hlb : (limbs b).length ≤ 1000) (hL : Lay w) :
    Calls Tryz.prog 149 #[v, u] w fun e w' => e = .returned (.tuple #[.string (resB (a + b)), .int .i64 (resE (a + b))]) ∧ Below w.heap.size w w' := by
  have HA := hid ha; have HB := hid hb; have HL := hid hL
  have LA := hid hla; have LB := hid hlb
  have LS := hid (len_add hla hlb)
  obtain ⟨a1, c1, rfl, _⟩ := ha.openI
  obtain ⟨a2, c2, rfl, _⟩ := hb.openI
  clear ha hb hL hla hlb
  go_enter Tryz.func149, Tryz.ntmps149
  go_wp2_with fail
  refine (l_Add _ _ _ a b HA.out HB.out (by have := LA.out; omega) (by have := LB.out; omega)).mono ?_
  rintro e w1 ⟨⟨v1, rfl, hv1⟩, hb1⟩
  have y1 := hid hb1; have V1 := hid hv1; clear hb1 hv1
  obtain ⟨a3, c3, rfl, _⟩ := V1.out.openI
  go_wp2_with fail
  refine (n_result _ _ _ V1.out (by have := LS.out; omega) (HL.out.call y1.out)).mono ?_
  rintro e w2 ⟨rfl, hb2⟩
  have y2 := hid (bnext y1.out hb2); clear hb2
  go_wp2_with fail
  go_ret2
  exact ⟨rfl, y2.out⟩

set_option maxRecDepth 100000 in
set_option maxHeartbeats 1000000 in
theorem n_Add (w : World) (s t : ByteArray) (hs : s.size ≤ 1000000) (ht : t.size ≤ 1000000) (hL : Lay w) :
    Calls Tryz.prog 98 #[.string s, .string t] w fun e w' => e = .returned (.tuple #[.string (natB ((· + ·)) s t), .int .i64 (natE ((· + ·)) s t)]) ∧ Below w.heap.size w w' := by
  have P := hid (n_pair w s t 149 (resB (((· + ·)) (bN s) (bN t))) (resE (((· + ·)) (bN s) (bN t))) hs ht hL (enters_of Tryz.func149 (by kernel_rfl) rfl)
    (fun W v u h1 h2 hv hu hLW => n_Add1 W v u _ _ hv hu (errN_dig h1).2.2 (errN_dig h2).2.2 hLW))
  go_enter Tryz.func98, Tryz.ntmps98
  go_wp2_with fail
  refine P.out.mono ?_
  rintro e w1 ⟨rfl, hb1⟩
  go_wp2_with fail
  go_ret2
  exact ⟨rfl, hb1⟩

set_option maxRecDepth 100000 in
set_option maxHeartbeats 1000000 in
theorem n_Mul1 (w : World) (v u : Value) (a b : Nat) (ha : IsN .u64 w v a) (hb : IsN .u64 w u b) (hla : (limbs a).length ≤ 1000) (hlb : (limbs b).length ≤ 1000) (hL : Lay w) :
    Calls Tryz.prog 147 #[v, u] w fun e w' => e = .returned (.tuple #[.string (resB (a * b)), .int .i64 (resE (a * b))]) ∧ Below w.heap.size w w' := by
  have HA := hid ha; have HB := hid hb; have HL := hid hL
  have LA := hid hla; have LB := hid hlb
  have LS := hid (len_mul hla hlb)
  obtain ⟨a1, c1, rfl, _⟩ := ha.openI
  obtain ⟨a2, c2, rfl, _⟩ := hb.openI
  clear ha hb hL hla hlb
  go_enter Tryz.func147, Tryz.ntmps147
  go_wp2_with fail
  refine (l_Mul _ _ _ a b HA.out HB.out (by have := LA.out; omega) (by have := LB.out; omega)).mono ?_
  rintro e w1 ⟨⟨v1, rfl, hv1⟩, hb1⟩
  have y1 := hid hb1; have V1 := hid hv1; clear hb1 hv1
  obtain ⟨a3, c3, rfl, _⟩ := V1.out.openI
  go_wp2_with fail
  refine (n_result _ _ _ V1.out (by have := LS.out; omega) (HL.out.call y1.out)).mono ?_
  rintro e w2 ⟨rfl, hb2⟩
  have y2 := hid (bnext y1.out hb2); clear hb2
  go_wp2_with fail
  go_ret2
  exact ⟨rfl, y2.out⟩

set_option maxRecDepth 100000 in
set_option maxHeartbeats 1000000 in
theorem n_Mul (w : World) (s t : ByteArray) (hs : s.size ≤ 1000000) (ht : t.size ≤ 1000000) (hL : Lay w) :
    Calls Tryz.prog 97 #[.string s, .string t] w fun e w' => e = .returned (.tuple #[.string (natB ((· * ·)) s t), .int .i64 (natE ((· * ·)) s t)]) ∧ Below w.heap.size w w' := by
  have P := hid (n_pair w s t 147 (resB (((· * ·)) (bN s) (bN t))) (resE (((· * ·)) (bN s) (bN t))) hs ht hL (enters_of Tryz.func147 (by kernel_rfl) rfl)
    (fun W v u h1 h2 hv hu hLW => n_Mul1 W v u _ _ hv hu (errN_dig h1).2.2 (errN_dig h2).2.2 hLW))
  go_enter Tryz.func97, Tryz.ntmps97
  go_wp2_with fail
  refine P.out.mono ?_
  rintro e w1 ⟨rfl, hb1⟩
  go_wp2_with fail
  go_ret2
  exact ⟨rfl, hb1⟩

/-- Subtraction's text and error. -/
def subB (a b : Nat) : ByteArray := if a < b then ⟨#[]⟩ else resB (a - b)
def subE (a b : Nat) : Int := if a < b then 2 else resE (a - b)

set_option maxRecDepth 100000 in
set_option maxHeartbeats 1000000 in
theorem n_Sub1 (w : World) (v u : Value) (a b : Nat) (ha : IsN .u64 w v a) (hb : IsN .u64 w u b) (hla : (limbs a).length ≤ 1000) (hlb : (limbs b).length ≤ 1000) (hL : Lay w) :
    Calls Tryz.prog 126 #[v, u] w fun e w' => e = .returned (.tuple #[.string (subB a b), .int .i64 (subE a b)]) ∧ Below w.heap.size w w' := by
  have HA := hid ha; have HB := hid hb; have HL := hid hL
  have LA := hid hla; have LB := hid hlb
  have LS := hid (len_sub hla hlb)
  obtain ⟨a1, c1, rfl, _⟩ := ha.openI
  obtain ⟨a2, c2, rfl, _⟩ := hb.openI
  clear ha hb hL hla hlb
  have C := hid (l_Cmp w _ _ a b HA.out HB.out (by have := LA.out; omega))
  by_cases h : a < b
  · have e1 : subB a b = ⟨#[]⟩ := if_pos h
    have e2 : subE a b = 2 := if_pos h
    rw [e1, e2]
    have e3 : ordN a b = -1 := ordN_lt h
    rw [e3] at C
    clear e1 e2 e3 h
    go_enter Tryz.func126, Tryz.ntmps126
    go_wp2_with fail
    refine C.out.mono ?_
    rintro e w1 ⟨rfl, hb1⟩
    go_wp2_with fail
    go_ret2
    exact ⟨rfl, hb1⟩
  · have e1 : subB a b = resB (a - b) := if_neg h
    have e2 : subE a b = resE (a - b) := if_neg h
    rw [e1, e2]
    have e3 : ordN a b = 0 ∨ ordN a b = 1 := by unfold ordN; rw [if_neg h]; split <;> simp
    obtain ⟨x, hx⟩ : ∃ x, ordN a b = x := ⟨_, rfl⟩
    rw [hx] at C e3
    have q0 : decide (x < 0) = false := by rcases e3 with rfl | rfl <;> decide
    have H := hid h
    clear e1 e2 e3 h hx
    go_enter Tryz.func126, Tryz.ntmps126
    go_wp2_with fail
    refine C.out.mono ?_
    rintro e w1 ⟨rfl, hb1⟩
    have y1 := hid hb1; clear hb1
    go_wp2_with fail
    refine (l_Sub _ _ _ a b (HA.out.call y1.out) (HB.out.call y1.out) (by have := H.out; omega) (by have := LA.out; omega)).mono ?_
    rintro e w2 ⟨⟨v1, rfl, hv1⟩, hb2⟩
    have y2 := hid (bnext y1.out hb2); have V1 := hid hv1; clear hb2 hv1
    obtain ⟨a3, c3, rfl, _⟩ := V1.out.openI
    go_wp2_with fail
    refine (n_result _ _ _ V1.out (by have := LS.out; omega) (HL.out.call y2.out)).mono ?_
    rintro e w3 ⟨rfl, hb3⟩
    have y3 := hid (bnext y2.out hb3); clear hb3
    go_wp2_with fail
    go_ret2
    exact ⟨rfl, y3.out⟩

set_option maxRecDepth 100000 in
set_option maxHeartbeats 1000000 in
theorem n_Sub (w : World) (s t : ByteArray) (hs : s.size ≤ 1000000) (ht : t.size ≤ 1000000) (hL : Lay w) :
    Calls Tryz.prog 87 #[.string s, .string t] w fun e w' => e = .returned (.tuple #[.string (pairB (subB (bN s) (bN t)) s t), .int .i64 (pairE (subE (bN s) (bN t)) s t)]) ∧ Below w.heap.size w w' := by
  have P := hid (n_pair w s t 126 (subB (bN s) (bN t)) (subE (bN s) (bN t)) hs ht hL (enters_of Tryz.func126 (by kernel_rfl) rfl)
    (fun W v u h1 h2 hv hu hLW => n_Sub1 W v u _ _ hv hu (errN_dig h1).2.2 (errN_dig h2).2.2 hLW))
  go_enter Tryz.func87, Tryz.ntmps87
  go_wp2_with fail
  refine P.out.mono ?_
  rintro e w1 ⟨rfl, hb1⟩
  go_wp2_with fail
  go_ret2
  exact ⟨rfl, hb1⟩

set_option maxRecDepth 100000 in
set_option maxHeartbeats 1000000 in
theorem n_Cmp (w : World) (s t : ByteArray) (hs : s.size ≤ 1000000) (ht : t.size ≤ 1000000) :
    Calls Tryz.prog 49 #[.string s, .string t] w fun e w' => e = .returned (.int .i64 (cmpN s.data.toList t.data.toList)) ∧ Below w.heap.size w w' := by
  have HS := fun W => hid (n_Check W s (by omega))
  have HT := fun W => hid (n_Check W t (by omega))
  by_cases h : errN s.data.toList = 0 ∧ errN t.data.toList = 0
  · have e1 : cmpN s.data.toList t.data.toList = ordN (bN s) (bN t) := if_pos h
    rw [e1]
    rw [h.1] at HS
    rw [h.2] at HT
    obtain ⟨d1, d2, d5⟩ := errN_dig h.1
    obtain ⟨d3, d4, -⟩ := errN_dig h.2
    have P1 := fun W => hid (l_Parse W s d1 (by omega))
    have P2 := fun W => hid (l_Parse W t d3 (by omega))
    have fe : firstE 0 0 = 0 := rfl
    have D5 := hid d5
    clear h d1 d2 d3 d4 d5 e1
    go_enter Tryz.func49, Tryz.ntmps49
    go_wp2_with fail
    refine (HS _).out.mono ?_; rintro e w1 ⟨rfl, hb1⟩
    have y1 := hid hb1; clear hb1
    go_wp2_with fail
    refine (HT _).out.mono ?_; rintro e w2 ⟨rfl, hb2⟩
    have y2 := hid (bnext y1.out hb2); clear hb2
    go_wp2_with fail
    refine (n_first _ _ 0 0 ?_ ?_).mono ?_
    · exact (Blk.new _ _ _).cell 0
    · exact (Blk.new _ _ _).cell 1
    rintro e w3 ⟨rfl, rfl⟩
    have y3 := hid (y2.out.alloc y2.out.size (.cells #[.int .i64 0, .int .i64 0] 27))
    rw [fe]
    go_wp2_with fail
    refine (P1 _).out.mono ?_; rintro e w4 ⟨⟨v4, rfl, hv4⟩, hb4⟩
    have y4 := hid (bnext y3.out hb4); have N4 := hid hv4; clear hb4 hv4
    go_wp2_with fail
    refine (P2 _).out.mono ?_; rintro e w5 ⟨⟨v5, rfl, hv5⟩, hb5⟩
    have y5 := hid (bnext y4.out hb5); have N5 := hid (N4.out.call hb5); have V5 := hid hv5; clear hb5 hv5
    go_wp2_with fail
    refine (l_Cmp _ _ _ _ _ N5.out V5.out (Nat.le_trans D5.out (by omega))).mono ?_; rintro e w6 ⟨rfl, hb6⟩
    have y6 := hid (bnext y5.out hb6); clear hb6
    go_wp2_with fail
    go_ret
    exact ⟨rfl, y6.out⟩
  · have e1 : cmpN s.data.toList t.data.toList = 0 := if_neg h
    rw [e1]
    obtain ⟨y, hy⟩ : ∃ y, errN s.data.toList = y := ⟨_, rfl⟩
    obtain ⟨z, hz⟩ : ∃ z, errN t.data.toList = z := ⟨_, rfl⟩
    rw [hy] at HS h
    rw [hz] at HT h
    have fe : ¬ firstE y z = 0 := by
      unfold firstE
      split
      · rename_i h1
        exact fun e => h ⟨h1, e⟩
      · rename_i h1
        exact h1
    obtain ⟨f, hf⟩ : ∃ f, firstE y z = f := ⟨_, rfl⟩
    rw [hf] at fe
    have q0 : (f == 0) = false := by simpa using fe
    have q1 : (f != 0) = true := by simpa using fe
    clear e1 hy hz h
    go_enter Tryz.func49, Tryz.ntmps49
    go_wp2_with fail
    refine (HS _).out.mono ?_; rintro e w1 ⟨rfl, hb1⟩
    have y1 := hid hb1; clear hb1
    go_wp2_with fail
    refine (HT _).out.mono ?_; rintro e w2 ⟨rfl, hb2⟩
    have y2 := hid (bnext y1.out hb2); clear hb2
    go_wp2_with fail
    refine (n_first _ _ y z ?_ ?_).mono ?_
    · exact (Blk.new _ _ _).cell 0
    · exact (Blk.new _ _ _).cell 1
    rintro e w3 ⟨rfl, rfl⟩
    have y3 := hid (y2.out.alloc y2.out.size (.cells #[.int .i64 y, .int .i64 z] 27))
    rw [hf]
    go_wp2_with fail
    go_ret
    exact ⟨rfl, y3.out⟩
end Go.Proofs.YtikfgddgfddbaaaGreatDoor
