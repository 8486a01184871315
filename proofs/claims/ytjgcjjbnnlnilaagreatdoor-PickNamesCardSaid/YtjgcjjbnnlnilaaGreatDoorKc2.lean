/- PickNear: the row and the tied card: for every input the law answers true; conditions: none beyond the row's own. -/
import Derived.Test.YtjgcjjbnnlnilaaGreatDoorKc1
namespace Go.Proofs.YtjgcjjbnnlnilaaGreatDoor
open Go.RowKit
open Go.Lib (decDigits nDigits)
set_option linter.unusedVariables false

/-- The sign of an integer. -/
def sgnZ (z : Int) : Int := if z = 0 then 0 else if z < 0 then -1 else 1
theorem mk_num_zero {z : Int} {d : Nat} (hd : d ≠ 0) : (mkRat z d).num = 0 ↔ z = 0 := by
  rw [Rat.num_mkRat, if_neg hd]
  have hg : (0 : Int) < (Nat.gcd d z.natAbs : Nat) := by
    have := Nat.gcd_pos_of_pos_left z.natAbs (Nat.pos_of_ne_zero hd)
    omega
  have hdv : ((Nat.gcd d z.natAbs : Nat) : Int) ∣ z := Int.ofNat_dvd_left.2 (Nat.gcd_dvd_right _ _)
  constructor
  · intro h
    have := Int.ediv_mul_cancel hdv
    rw [h, Int.zero_mul] at this
    exact this.symm
  · rintro rfl; simp
theorem mk_num_neg {z : Int} {d : Nat} (hd : d ≠ 0) : (mkRat z d).num < 0 ↔ z < 0 := by
  rw [Rat.num_mkRat, if_neg hd]
  have hg : (0 : Int) < (Nat.gcd d z.natAbs : Nat) := by
    have := Nat.gcd_pos_of_pos_left z.natAbs (Nat.pos_of_ne_zero hd)
    omega
  constructor
  · intro h
    rcases Int.lt_or_le z 0 with h1 | h1
    · exact h1
    · have := Int.ediv_nonneg h1 (Int.le_of_lt hg)
      omega
  · intro h
    exact Int.ediv_neg_of_neg_of_pos h hg
theorem sgnQ_mk {z : Int} {d : Nat} (hd : d ≠ 0) : sgnQ (mkRat z d) = sgnZ z := by
  unfold sgnQ sgnZ
  by_cases h : z = 0
  · rw [if_pos ((mk_num_zero hd).2 h), if_pos h]
  · rw [if_neg (fun e => h ((mk_num_zero hd).1 e)), if_neg h]
    by_cases h2 : z < 0
    · rw [if_pos ((mk_num_neg hd).2 h2), if_pos h2]
    · rw [if_neg (fun e => h2 ((mk_num_neg hd).1 e)), if_neg h2]
theorem mk_sub {a c : Int} {b d : Nat} (hb : b ≠ 0) (hd : d ≠ 0) : mkRat a b - mkRat c d = mkRat (a * d - c * b) (b * d) := by
  rw [Rat.sub_eq_add_neg, Rat.neg_mkRat, Rat.mkRat_add_mkRat _ _ hb hd, Int.neg_mul, Int.sub_eq_add_neg]
theorem ordQ_mk {a c : Int} {b d : Nat} (hb : b ≠ 0) (hd : d ≠ 0) : ordQ (mkRat a b) (mkRat c d) = sgnZ (a * d - c * b) := by
  unfold ordQ
  rw [mk_sub hb hd, sgnQ_mk (Nat.mul_ne_zero hb hd)]
theorem mk_add_same {a c : Int} {b : Nat} (hb : b ≠ 0) : mkRat a b + mkRat c b = mkRat (a + c) b := by
  rw [Rat.mkRat_add_mkRat _ _ hb hb, ← Int.add_mul]
  exact Rat.mkRat_mul_right hb
theorem mk_half_pow : ∀ n : Nat, (mkRat 1 2 : Rat) ^ n = mkRat 1 (2 ^ n)
  | 0 => by rw [Rat.pow_zero]; rfl
  | n + 1 => by rw [Rat.pow_succ, mk_half_pow n, Rat.mkRat_mul_mkRat, Nat.pow_succ]; rfl
theorem qmk_nat (a b : Nat) : qmk false a b = mkRat (a : Int) b := by unfold qmk sgn; rfl

/-- A fraction of few digits. -/
theorem dig_frac {K : Nat} {z : Int} {d : Nat} (hd : d ≠ 0) (h1 : nDigits z.natAbs ≤ K) (h2 : nDigits d ≤ K) : Dig K (mkRat z d) :=
  dig_mk (Nat.pos_of_ne_zero hd) (Nat.lt_of_lt_of_le (Go.Lib.lt_pow_nDigits _) (Nat.pow_le_pow_right (by omega) h1)) (Nat.lt_of_lt_of_le (Go.Lib.lt_pow_nDigits _) (Nat.pow_le_pow_right (by omega) h2))
theorem shB_tx {a b : Nat} (hb : b ≠ 0) (h1 : nDigits a ≤ 4000) (h2 : nDigits b ≤ 4000) : shB a b = txQ (mkRat (a : Int) b) := by
  unfold shB
  rw [qmk_nat]
  exact outB_fits ((dig_frac hb (by simpa using h1) h2).fits (by omega) (by omega))
theorem numB_tx (k : Nat) : numB k = txQ (mkRat (k : Int) 1) := by
  have e : (mkRat (k : Int) 1 : Rat) = ((k : Int) : Rat) := by rw [Rat.mkRat_one]
  apply ba_ext
  rw [e, txQ, txB_list, numB_list]
  have : ¬ ((k : Int) < 0) := by omega
  simp [this]
theorem op2_txt {f : Rat → Rat → Rat} {p q : Rat} (hp : ¬ ovQ p) (hq : ¬ ovQ q) (h : ¬ ovQ (f p q)) : op2B f (txQ p) (txQ q) = txQ (f p q) ∧ op2E f (txQ p) (txQ q) = 0 := by
  have h1 := qE_txQ hp
  have h2 := qE_txQ hq
  refine ⟨?_, ?_⟩
  · rw [op2B, if_pos ⟨h1, h2⟩, vQ_txQ, vQ_txQ, outB_fits h]
  · rw [op2E, if_pos h1, if_pos h2, vQ_txQ, vQ_txQ, outE_fits h]
theorem sg_txt {q : Rat} (h : ¬ ovQ q) : sgB (txQ q) = sgnQ q ∧ qE (txQ q) = 0 := by
  have h1 := qE_txQ h
  exact ⟨by rw [sgB, if_pos h1, vQ_txQ], h1⟩
theorem cm_txt {p q : Rat} (hp : ¬ ovQ p) (hq : ¬ ovQ q) : cmB (txQ p) (txQ q) = ordQ p q ∧ cmE (txQ p) (txQ q) = 0 := by
  have h1 := qE_txQ hp
  have h2 := qE_txQ hq
  exact ⟨by rw [cmB, if_pos ⟨h1, h2⟩, vQ_txQ, vQ_txQ], by rw [cmE, if_pos h1, h2]⟩
theorem tx_size {q : Rat} (h : ¬ ovQ q) : (txQ q).size ≤ 10000 := by
  have := outB_size q
  rwa [outB_fits h] at this
end Go.Proofs.YtjgcjjbnnlnilaaGreatDoor

/- Walks: law05.value; what it finds in the law and in the exact distribution. -/
namespace Go.Proofs.YtjgcjjbnnlnilaaGreatDoor
open Go.RowKit Go.Shelf
open Go.Lib (decDigits nDigits)
set_option linter.unusedVariables false
set_option linter.unusedSimpArgs false

/-- The probability that stands at a key, or "0". -/
def valM (L : List (ByteArray × ByteArray)) (k : ByteArray) : ByteArray := ((L.find? fun p => decide (p.1 = k)).map (·.2)).getD ⟨#[48]⟩
theorem valM_none {L : List (ByteArray × ByteArray)} {k : ByteArray} (h : ∀ p ∈ L, p.1 ≠ k) : valM L k = ⟨#[48]⟩ := by
  unfold valM
  rw [List.find?_eq_none.2 (fun p hp => by simpa using h p hp)]
  rfl
theorem valM_some {L : List (ByteArray × ByteArray)} {k v : ByteArray} (hm : (k, v) ∈ L) (nd : (L.map keyL).Nodup) : valM L k = v := by
  unfold valM
  cases hf : L.find? (fun p => decide (p.1 = k)) with
  | none =>
    have := List.find?_eq_none.1 hf (k, v) hm
    simp at this
  | some p =>
    have h1 := List.mem_of_find?_eq_some hf
    have h2 : p.1 = k := by simpa using List.find?_some hf
    obtain ⟨i, hi, e1⟩ := List.getElem_of_mem h1
    obtain ⟨j, hj, e2⟩ := List.getElem_of_mem hm
    have e : i = j := by
      rcases Nat.lt_trichotomy i j with h | h | h
      · have := List.pairwise_iff_getElem.1 nd i j (by simpa using hi) (by simpa using hj) h
        simp only [List.getElem_map, e1, e2, keyL, h2, ne_eq, not_true_eq_false] at this
      · exact h
      · have := List.pairwise_iff_getElem.1 nd j i (by simpa using hj) (by simpa using hi) h
        simp only [List.getElem_map, e1, e2, keyL, h2, ne_eq, not_true_eq_false] at this
    subst e
    rw [e1] at e2
    subst e2
    rfl
theorem sortM_nd {L : List (ByteArray × ByteArray)} (nd : (L.map keyL).Nodup) : ((sortM L).map keyL).Nodup := (((List.mergeSort_perm L _).map keyL).nodup_iff).2 nd

theorem numB_inj {i j : Nat} (h : numB i = numB j) : i = j := by rw [← bN_num i, h, bN_num]

theorem val_law {ws : List Nat} {t N i : Nat} (hi : i < N) : valM (sortM (lawP ws t N)) (numB i) = shB (cnt ws t i) t := by
  by_cases h : cntF ws t i < cntE ws t i
  · refine valM_some (sortM_mem.2 ?_) (sortM_nd (reads_lawM (H := Unit) ws t N).nd)
    have : (numB i, shB (cnt ws t i) t) ∈ lawL ws t N := lawL_mem.2 ⟨i, hi, h, rfl⟩
    unfold lawP
    split
    · exact this
    · exact List.mem_append_left _ this
  · have e : cnt ws t i = 0 := by unfold cnt; omega
    rw [e, shB_zero]
    refine valM_none fun p hp e2 => ?_
    rw [sortM_mem] at hp
    unfold lawP at hp
    have h1 : p ∈ lawL ws t N → False := fun hp => by
      obtain ⟨j, -, h3, rfl⟩ := lawL_mem.1 hp
      have := numB_inj e2
      subst this
      exact h h3
    split at hp
    · exact h1 hp
    · rcases List.mem_append.1 hp with hp | hp
      · exact h1 hp
      · simp at hp
        subst hp
        exact numB_late i (congrArg (fun b => b.data.toList) e2.symm)
theorem val_late (ws : List Nat) (t N : Nat) : valM (sortM (lawP ws t N)) lateB = shB (t - lwS ws t N) t := by
  by_cases h : t - lwS ws t N = 0
  · rw [h, shB_zero]
    exact valM_none fun p hp => lawP_late.2 h p (sortM_mem.1 hp)
  · exact valM_some (sortM_mem.2 (lawP_late.1 h)) (sortM_nd (reads_lawM (H := Unit) ws t N).nd)
theorem val_exact {ws : List Nat} {S N i : Nat} (hi : i < N) : valM (sortM (exL ws S N)) (numB i) = shB (ws.getD i 0) S := by
  by_cases h : ws.getD i 0 = 0
  · rw [h, shB_zero]
    refine valM_none fun p hp e2 => ?_
    rw [sortM_mem] at hp
    obtain ⟨j, -, h3, rfl⟩ := exL_mem.1 hp
    have := numB_inj e2
    subst this
    exact h3 h
  · exact valM_some (sortM_mem.2 (exL_mem.2 ⟨i, hi, h, rfl⟩)) (sortM_nd (reads_exD (H := Unit) ws S N).nd)

set_option maxRecDepth 100000 in
set_option maxHeartbeats 1000000 in
theorem w_value (w : World) (v : Value) (L : List (ByteArray × ByteArray)) (k : ByteArray) (hv : MRow w v L) :
    Calls Tryz.prog 25 #[v, .string k] w fun e w' => e = .returned (.string (valM L k)) ∧ w = w' := by
  obtain ⟨a, c, rfl, h1, h2, h3⟩ := hv.ex
  obtain ⟨n, hn⟩ : ∃ n, L.length = n := ⟨_, rfl⟩
  rw [hn] at h1 ⊢
  have H3 := hid h3; have HN := hid hn
  clear hv h3 hn
  go_enter Tryz.func25, Tryz.ntmps25
  go_wp2_with fail
  go_loop [5] (fun ii => ∃ i : Nat, ii = .int .i64 (i : Nat) ∧ i ≤ n ∧ Hid (valM L k = valM (L.drop i) k)) (fun ii => n - (intOf ii).toNat)
  case atStart => exact ⟨0, rfl, Nat.zero_le _, rfl⟩
  case round =>
    obtain ⟨i, rfl, hi, hI⟩ := hrel
    by_cases hlt : i < n
    · obtain ⟨p, hp⟩ : ∃ x, L[i]? = some x := ⟨_, List.getElem?_eq_getElem (by rw [HN.out]; exact hlt)⟩
      obtain ⟨g, o, rfl, hg, m1, m2⟩ := H3.out i p hp
      have hd : L.drop i = p :: L.drop (i + 1) := by
        obtain ⟨h, rfl⟩ := List.getElem?_eq_some_iff.1 hp
        exact List.drop_eq_getElem_cons h
      obtain ⟨x1, x2⟩ := p
      dsimp only at m1 m2
      rw [Nat.mul_comm 2 i] at m1 m2
      have b1 : (0 : Int) ≤ (i : Int) := by omega
      have b2 : (i : Int) < (n : Int) := by omega
      have wi : IntKind.i64.wrap ((i : Int) + 1) = (i : Int) + 1 := by rw [IntWalk.i64_in _ ⟨by omega, by omega⟩]
      by_cases he : x1 = k
      · subst he
        have hR : valM L x1 = x2 := by rw [hI.out, hd, valM, List.find?_cons_of_pos (by simp)]; rfl
        have HR := hid hR
        clear hp hg hd hR
        go_wp2_with fail
        go_ret
        exact ⟨by rw [HR.out]; rfl, rfl⟩
      · have hR : Hid (valM L k = valM (L.drop (i + 1)) k) := by show valM L k = _; rw [hI.out, hd, valM, List.find?_cons_of_neg (by simpa using he)]; rfl
        have n1 : (x1.toList == k.toList) = false := by rw [beq_eq_false_iff_ne]; exact ne_tl he
        clear hp hg hd he
        go_wp2_with fail
        go_round
        case rel => exact ⟨i + 1, by go_num, by omega, hR⟩
        case measure => simp [intOf] <;> omega
    · obtain rfl : i = n := by omega
      have q1 : decide ((i : Int) < (i : Int)) = false := by simp
      have hR : valM L k = ⟨#[48]⟩ := by rw [hI.out, List.drop_of_length_le (by rw [HN.out]; exact Nat.le_refl _)]; rfl
      have HR := hid hR
      clear hlt hR
      go_wp2_with fail
      go_ret
      exact ⟨by rw [HR.out]; rfl, rfl⟩
end Go.Proofs.YtjgcjjbnnlnilaaGreatDoor

/- Plain: the texts that the law PickNear meets. -/
namespace Go.Proofs.YtjgcjjbnnlnilaaGreatDoor
open Go.RowKit
open Go.Lib (decDigits nDigits)
set_option linter.unusedVariables false

/-- The weights of the law: at most 64, of at most 300 digits, not all 0. -/
structure Few (ws : List Nat) : Prop where
  len : ws.length ≤ 64
  dig : ∀ x ∈ ws, nDigits x ≤ 300
  pos : 0 < ws.sum
theorem Few.sum {ws : List Nat} (h : Few ws) : nDigits ws.sum ≤ 302 := nd_sum h.dig (by have := h.len; omega)
theorem Few.pre {ws : List Nat} (h : Few ws) (i : Nat) : nDigits (pre ws i) ≤ 302 := nd_pre i h.sum
theorem Few.at {ws : List Nat} (h : Few ws) (i : Nat) : nDigits (ws.getD i 0) ≤ 300 := by
  cases hx : ws[i]? with
  | some x => rw [List.getD_eq_getElem?_getD, hx]; exact h.dig x (List.mem_of_getElem? hx)
  | none => rw [List.getD_eq_getElem?_getD, hx]; exact Nat.le_trans (by rw [show (none : Option Nat).getD 0 = 0 from rfl, nDigits_zero]; exact Nat.le_refl 1) (by omega)
theorem Few.cnt {ws : List Nat} (h : Few ws) {m : Nat} (hm : m ≤ 256) (i : Nat) : nDigits (cnt ws (2 ^ m) i) ≤ 300 := by
  have h1 := nDigits_mono (Nat.le_trans (cnt_le ws (2 ^ m) i h.pos) (Nat.sub_le _ _))
  have h2 := two_nd (u := m) (by omega)
  omega
theorem two_ne (m : Nat) : 2 ^ m ≠ 0 := Nat.ne_of_gt (Nat.pow_pos (by omega))

/-- A share of the exact distribution, one of the law, what lies between, what has been added up. -/
def exQ (ws : List Nat) (i : Nat) : Rat := mkRat (ws.getD i 0 : Nat) ws.sum
def lwQ (ws : List Nat) (t i : Nat) : Rat := mkRat (cnt ws t i : Nat) t
def gapQ (ws : List Nat) (t i : Nat) : Rat := exQ ws i - lwQ ws t i
def totQ (ws : List Nat) (i : Nat) : Rat := mkRat (pre ws i : Nat) ws.sum
def szQ (t : Nat) : Rat := mkRat 1 t
def twQ (t : Nat) : Rat := mkRat 2 t

theorem frac_fits {K : Nat} {z : Int} {d : Nat} (hd : d ≠ 0) (h1 : nDigits z.natAbs ≤ K) (h2 : nDigits d ≤ K) (hk : K ≤ 4000) : ¬ ovQ (mkRat z d) := by
  have h := dig_frac hd h1 h2
  refine h.fits ?_ hk
  have := nd_pos d
  omega

theorem tw_dig {m : Nat} (hm : m ≤ 256) : Dig 302 (twQ (2 ^ m)) := dig_frac (two_ne m) (by rw [show (2 : Int).natAbs = 2 from rfl, Go.Lib.nDigits_small (by omega)]; omega) (by have := two_nd (u := m) (by omega); omega)
theorem int_less {x c S T : Nat} (hT : 0 < T) (h : x * T < (c + 2) * S) : sgnZ (((x : Int) * (T : Int) - (c : Int) * (S : Int)) * (T : Int) - 2 * ((S * T : Nat) : Int)) = -1 := by
  have h2 : ((x * T : Nat) : Int) < (((c + 2) * S : Nat) : Int) := Int.ofNat_lt.2 h
  rw [Int.natCast_mul, Int.natCast_mul, Int.natCast_add, Int.add_mul] at h2
  have e : ∀ A B D : Int, A * D - 2 * (B * D) = (A - 2 * B) * D := fun A B D => by rw [Int.sub_mul, Int.mul_assoc]
  rw [Int.natCast_mul, e]
  have h3 : (x : Int) * (T : Int) - (c : Int) * (S : Int) - 2 * (S : Int) < 0 := by
    have : ((2 : Nat) : Int) = 2 := rfl
    rw [this] at h2
    omega
  have h4 := Int.mul_neg_of_neg_of_pos h3 (show (0 : Int) < (T : Int) by omega)
  unfold sgnZ
  rw [if_neg (by omega), if_pos h4]

section
variable {ws : List Nat} {m : Nat} (h : Few ws) (hm : m ≤ 256)
include h
theorem ex_dig (i : Nat) : Dig 302 (exQ ws i) := dig_frac (by have := h.pos; omega) (by have := h.at i; simpa using (by omega : nDigits (ws.getD i 0) ≤ 302)) h.sum
theorem tot_dig (i : Nat) : Dig 302 (totQ ws i) := dig_frac (by have := h.pos; omega) (by simpa using h.pre i) h.sum
theorem ex_tx (i : Nat) : shB (ws.getD i 0) ws.sum = txQ (exQ ws i) := shB_tx (by have := h.pos; omega) (by have := h.at i; omega) (by have := h.sum; omega)
theorem gap_mk {i : Nat} : gapQ ws (2 ^ m) i = mkRat ((ws.getD i 0 : Nat) * (2 ^ m : Nat) - (cnt ws (2 ^ m) i : Nat) * (ws.sum : Nat)) (ws.sum * 2 ^ m) := mk_sub (by have := h.pos; omega) (two_ne m)
include hm
theorem lw_dig (i : Nat) : Dig 302 (lwQ ws (2 ^ m) i) := dig_frac (two_ne m) (by have := h.cnt hm i; simpa using (by omega : nDigits (cnt ws (2 ^ m) i) ≤ 302)) (by have := two_nd (u := m) (by omega); omega)
theorem gap_dig (i : Nat) : Dig 605 (gapQ ws (2 ^ m) i) := dig_sub (ex_dig h i) (lw_dig h hm i)
theorem lw_tx (i : Nat) : shB (cnt ws (2 ^ m) i) (2 ^ m) = txQ (lwQ ws (2 ^ m) i) := shB_tx (two_ne m) (by have := h.cnt hm i; omega) (by have := two_nd (u := m) (by omega); omega)

theorem near_sub (i : Nat) : op2B (· - ·) (shB (ws.getD i 0) ws.sum) (shB (cnt ws (2 ^ m) i) (2 ^ m)) = txQ (gapQ ws (2 ^ m) i) ∧ op2E (· - ·) (shB (ws.getD i 0) ws.sum) (shB (cnt ws (2 ^ m) i) (2 ^ m)) = 0 := by
  rw [ex_tx h, lw_tx h hm]
  exact op2_txt ((ex_dig h i).fits (by omega) (by omega)) ((lw_dig h hm i).fits (by omega) (by omega)) ((gap_dig h hm i).fits (by omega) (by omega))
theorem near_sign {i : Nat} (hi : i < ws.length) : 0 ≤ sgB (txQ (gapQ ws (2 ^ m) i)) ∧ qE (txQ (gapQ ws (2 ^ m) i)) = 0 := by
  obtain ⟨e1, e2⟩ := sg_txt ((gap_dig h hm i).fits (by omega) (by omega))
  refine ⟨?_, e2⟩
  rw [e1, gap_mk h, sgnQ_mk (Nat.mul_ne_zero (by have := h.pos; omega) (two_ne m))]
  have hx : ws[i]? = some (ws.getD i 0) := by rw [List.getD_eq_getElem?_getD, List.getElem?_eq_getElem hi]; rfl
  have h1 := cnt_below (2 ^ m) h.pos hx
  have h2 : ((cnt ws (2 ^ m) i * ws.sum : Nat) : Int) ≤ ((ws.getD i 0 * 2 ^ m : Nat) : Int) := Int.ofNat_le.2 h1
  rw [Int.natCast_mul, Int.natCast_mul] at h2
  unfold sgnZ
  split
  · omega
  · split
    · omega
    · omega
theorem near_less {i : Nat} (hi : i < ws.length) : cmB (txQ (gapQ ws (2 ^ m) i)) (txQ (twQ (2 ^ m))) = -1 ∧ cmE (txQ (gapQ ws (2 ^ m) i)) (txQ (twQ (2 ^ m))) = 0 := by
  obtain ⟨e1, e2⟩ := cm_txt ((gap_dig h hm i).fits (by omega) (by omega)) ((tw_dig hm).fits (by omega) (by omega))
  refine ⟨?_, e2⟩
  rw [e1, gap_mk h]
  unfold twQ
  rw [ordQ_mk (Nat.mul_ne_zero (by have := h.pos; omega) (two_ne m)) (two_ne m)]
  have hx : ws[i]? = some (ws.getD i 0) := by rw [List.getD_eq_getElem?_getD, List.getElem?_eq_getElem hi]; rfl
  have h1 := cnt_near (2 ^ m) h.pos hx
  exact int_less (Nat.pow_pos (by omega)) h1
omit hm
theorem near_add {i : Nat} (hi : i < ws.length) : op2B (· + ·) (txQ (totQ ws i)) (shB (ws.getD i 0) ws.sum) = txQ (totQ ws (i + 1)) ∧ op2E (· + ·) (txQ (totQ ws i)) (shB (ws.getD i 0) ws.sum) = 0 := by
  have e : totQ ws i + exQ ws i = totQ ws (i + 1) := by
    unfold totQ exQ
    rw [mk_add_same (by have := h.pos; omega), pre_step, Int.natCast_add]
  rw [ex_tx h, ← e]
  exact op2_txt ((tot_dig h i).fits (by omega) (by omega)) ((ex_dig h i).fits (by omega) (by omega)) (by rw [e]; exact (tot_dig h (i + 1)).fits (by omega) (by omega))
theorem tot_end : txQ (totQ ws ws.length) = ⟨#[49]⟩ := by
  have e : totQ ws ws.length = mkRat ((1 : Nat) : Int) 1 := by
    unfold totQ
    rw [pre_all (Nat.le_refl _)]
    have := Rat.mkRat_mul_left (n := 1) (d := 1) (a := ws.sum) (by have := h.pos; omega)
    simpa using this
  rw [e, ← numB_tx, numB_one]
end

theorem tot_start (ws : List Nat) : txQ (totQ ws 0) = ⟨#[48]⟩ := by
  have e : totQ ws 0 = mkRat ((0 : Nat) : Int) 1 := by unfold totQ; rw [pre_zero]; simp
  rw [e, ← numB_tx, numB_zero]
theorem sz_dig {m : Nat} (hm : m ≤ 256) : Dig 302 (szQ (2 ^ m)) := dig_frac (two_ne m) (by rw [show (1 : Int).natAbs = 1 from rfl, nDigits_one]; omega) (by have := two_nd (u := m) (by omega); omega)
theorem half_tx : (⟨#[49, 47, 50]⟩ : ByteArray) = txQ (mkRat 1 2) := by
  apply ba_ext
  rw [txQ, txB_list]
  have e1 : (mkRat 1 2 : Rat).num = 1 := by decide +kernel
  have e2 : (mkRat 1 2 : Rat).den = 2 := by decide +kernel
  rw [e1, e2]
  simp [decDigits_small]
theorem half_fits : ¬ ovQ (mkRat 1 2) := frac_fits (K := 1) (by decide) (by rw [show (1 : Int).natAbs = 1 from rfl, nDigits_one]; omega) (by rw [Go.Lib.nDigits_small (by omega)]; omega) (by omega)
theorem half_ok : qE ⟨#[49, 47, 50]⟩ = 0 ∧ vQ ⟨#[49, 47, 50]⟩ = mkRat 1 2 ∧ 0 ≤ (mkRat 1 2 : Rat).num := by
  rw [half_tx]
  exact ⟨qE_txQ half_fits, vQ_txQ _, by decide +kernel⟩
theorem near_pow {m : Nat} (hm : m ≤ 256) : outB ((mkRat 1 2 : Rat) ^ m) = txQ (szQ (2 ^ m)) ∧ outE ((mkRat 1 2 : Rat) ^ m) = 0 := by
  rw [mk_half_pow]
  have f := (sz_dig hm).fits (by omega) (by omega)
  exact ⟨outB_fits f, outE_fits f⟩
theorem near_mul {m : Nat} (hm : m ≤ 256) {k : Nat} (hk : nDigits k ≤ 300) : op2B (· * ·) (numB k) (txQ (szQ (2 ^ m))) = txQ (mkRat (k : Nat) (2 ^ m)) ∧ op2E (· * ·) (numB k) (txQ (szQ (2 ^ m))) = 0 := by
  have e : (mkRat (k : Int) 1 : Rat) * szQ (2 ^ m) = mkRat (k : Nat) (2 ^ m) := by
    unfold szQ
    rw [Rat.mkRat_mul_mkRat, Int.mul_one, Nat.one_mul]
  have d1 : Dig 302 (mkRat (k : Int) 1) := dig_frac (by omega) (by simpa using (by omega : nDigits k ≤ 302)) (by rw [nDigits_one]; omega)
  rw [numB_tx, ← e]
  exact op2_txt (d1.fits (by omega) (by omega)) ((sz_dig hm).fits (by omega) (by omega)) ((dig_mul d1 (sz_dig hm)).fits (by omega) (by omega))
theorem near_late {m : Nat} (hm : m ≤ 256) {L k : Nat} (hL : L ≤ k) (hk : nDigits k ≤ 300) : cmB (shB L (2 ^ m)) (txQ (mkRat (k : Nat) (2 ^ m))) ≤ 0 ∧ cmE (shB L (2 ^ m)) (txQ (mkRat (k : Nat) (2 ^ m))) = 0 := by
  have nt := two_nd (u := m) (by omega)
  have hLd := nDigits_mono hL
  rw [shB_tx (two_ne m) (by omega) (by omega)]
  have f1 : ¬ ovQ (mkRat (L : Int) (2 ^ m)) := frac_fits (K := 302) (two_ne m) (by simpa using (by omega : nDigits L ≤ 302)) (by omega) (by omega)
  have f2 : ¬ ovQ (mkRat (k : Int) (2 ^ m)) := frac_fits (K := 302) (two_ne m) (by simpa using (by omega : nDigits k ≤ 302)) (by omega) (by omega)
  obtain ⟨e1, e2⟩ := cm_txt f1 f2
  refine ⟨?_, e2⟩
  rw [e1, ordQ_mk (two_ne m) (two_ne m)]
  have h1 : ((L * 2 ^ m : Nat) : Int) ≤ ((k * 2 ^ m : Nat) : Int) := Int.ofNat_le.2 (Nat.mul_le_mul_right _ hL)
  rw [Int.natCast_mul, Int.natCast_mul] at h1
  unfold sgnZ
  split
  · omega
  · split
    · omega
    · omega
end Go.Proofs.YtjgcjjbnnlnilaaGreatDoor

/- Walks: law05.PickNear where something is refused. -/
namespace Go.Proofs.YtjgcjjbnnlnilaaGreatDoor
open Go.RowKit Go.Shelf
open Go.Lib (decDigits nDigits)
set_option linter.unusedVariables false
set_option linter.unusedSimpArgs false

set_option maxRecDepth 100000 in
set_option maxHeartbeats 4000000 in
theorem pn_err (w : World) (v : Value) (l : List ByteArray) (n : Int) (hv : Row w v (strs l)) (hL : Lay w) (h : longB l = true ∨ lawE l n ≠ 0) :
    Calls Tryz.prog 5 #[v, .int .i64 n] w fun e w' => e = .returned (.bool true) ∧ Below w.heap.size w w' := by
  have HLV := hid (w_lives w hL)
  have HLG := fun V hV => hid (p_long V v l hV)
  have HV := hid hv; have HL := hid hL
  obtain ⟨a, c, rfl, c1, c2, -⟩ := hv.openS
  obtain ⟨N, hN⟩ : ∃ N, l.length = N := ⟨_, rfl⟩
  have HN := hid hN
  rw [hN] at HLG HV c1 ⊢
  clear hL hv hN
  by_cases g0 : longB l = true
  · rw [g0] at HLG
    clear g0 h
    go_enter Tryz.func5, Tryz.ntmps5
    go_wp2_with fail
    refine HLV.out.mono ?_; rintro e w1 ⟨rfl, hb1⟩
    have y1 := hid hb1; clear hb1
    go_wp2_with fail
    refine (HLG _ (HV.out.call y1.out)).out.mono ?_; rintro e w2 ⟨rfl, rfl⟩
    go_wp2_with fail
    go_ret
    exact ⟨rfl, y1.out⟩
  have he : lawE l n ≠ 0 := h.resolve_left g0
  have HG0 := hid g0
  rw [Bool.not_eq_true] at g0
  rw [g0] at HLG
  have hl1 := fun x hx => Nat.le_trans ((longB_no HG0.out).1 x hx) (by omega : 300 ≤ 1000000)
  have P1 := fun V v hV hLV => hid (p_Law V v l n hV hl1 hLV)
  have P2 := fun V v hV hLV => hid (p_Exact V v l hV hl1 hLV)
  have e1 : lawR l n = [] := by rw [lawR, if_neg he]
  rw [e1] at P1
  by_cases hw : wsE l = 0
  · have e2 : lawE l n = 2 := by
      unfold lawE at he ⊢
      rw [if_neg (by rw [hw]; simp)] at he ⊢
      split
      · rfl
      · rename_i h3; rw [if_neg h3] at he; exact absurd rfl he
    rw [e2] at P1
    rw [hw] at P2
    clear g0 h he hl1 e1 e2 hw
    go_enter Tryz.func5, Tryz.ntmps5
    go_wp2_with fail
    refine HLV.out.mono ?_; rintro e w1 ⟨rfl, hb1⟩
    have y1 := hid hb1; clear hb1
    go_wp2_with fail
    refine (HLG _ (HV.out.call y1.out)).out.mono ?_; rintro e w2 ⟨rfl, rfl⟩
    go_wp2_with fail
    refine (P1 _ _ (HV.out.call y1.out) (HL.out.call y1.out)).out.mono ?_; rintro e w2 ⟨⟨u, rfl, hu⟩, hb2⟩
    have y2 := hid (bnext y1.out hb2)
    obtain ⟨a2, k2, rfl, -⟩ := hu.ex
    simp only [List.length_nil]
    clear hb2 hu
    go_wp2_with fail
    refine (P2 _ _ (HV.out.call y2.out) (HL.out.call y2.out)).out.mono ?_; rintro e w3 ⟨⟨u, rfl, hu⟩, hb3⟩
    have y3 := hid (bnext y2.out hb3)
    obtain ⟨a3, k3, rfl, -⟩ := hu.ex
    generalize (exR l).length = q3
    clear hb3 hu
    go_wp2_with fail
    go_ret
    exact ⟨rfl, y3.out⟩
  · have e2 : lawE l n = wsE l := by rw [lawE, if_pos hw]
    have e3 : exR l = [] := by rw [exR, if_neg hw]
    rw [e2] at P1
    rw [e3] at P2
    obtain ⟨z, hz⟩ : ∃ z, wsE l = z := ⟨_, rfl⟩
    rw [hz] at P1 P2 hw
    have q0 : (z != 0) = true := by simpa using hw
    clear g0 h he hl1 e1 e2 e3 hw hz
    go_enter Tryz.func5, Tryz.ntmps5
    go_wp2_with fail
    refine HLV.out.mono ?_; rintro e w1 ⟨rfl, hb1⟩
    have y1 := hid hb1; clear hb1
    go_wp2_with fail
    refine (HLG _ (HV.out.call y1.out)).out.mono ?_; rintro e w2 ⟨rfl, rfl⟩
    go_wp2_with fail
    refine (P1 _ _ (HV.out.call y1.out) (HL.out.call y1.out)).out.mono ?_; rintro e w2 ⟨⟨u, rfl, hu⟩, hb2⟩
    have y2 := hid (bnext y1.out hb2)
    obtain ⟨a2, k2, rfl, -⟩ := hu.ex
    simp only [List.length_nil]
    clear hb2 hu
    go_wp2_with fail
    refine (P2 _ _ (HV.out.call y2.out) (HL.out.call y2.out)).out.mono ?_; rintro e w3 ⟨⟨u, rfl, hu⟩, hb3⟩
    have y3 := hid (bnext y2.out hb3)
    obtain ⟨a3, k3, rfl, -⟩ := hu.ex
    simp only [List.length_nil]
    clear hb3 hu
    go_wp2_with fail
    go_ret
    exact ⟨rfl, y3.out⟩
end Go.Proofs.YtjgcjjbnnlnilaaGreatDoor

/- Walks: the reference's Pow at a number from 0 on and an exponent from 0 on. -/
namespace Go.Proofs.YtjgcjjbnnlnilaaGreatDoor
open Go.RowKit
open Go.Lib (decDigits nDigits)
set_option linter.unusedVariables false
set_option linter.unusedSimpArgs false

theorem pow_nn {q : Rat} (h : 0 ≤ q.num) (n : Nat) : (q ^ n).num.natAbs = q.num.natAbs ^ n ∧ (q ^ n).den = q.den ^ n ∧ decide ((q ^ n).num < 0) = false := by
  have h1 : 0 ≤ q.num ^ n := Int.pow_nonneg h
  refine ⟨by rw [Rat.num_pow, Int.natAbs_pow], Rat.den_pow q n, ?_⟩
  rw [Rat.num_pow]
  simpa using h1

set_option maxRecDepth 100000 in
set_option maxHeartbeats 2000000 in
theorem r2_Pow_nat (w : World) (s : ByteArray) (n : Nat) (hs : s.size ≤ 1000000) (hq : qE s = 0) (h0 : 0 ≤ (vQ s).num) (hn : n ≤ 1000000000) :
    Calls Tryz.prog 23 #[.string s, .int .i64 (n : Nat)] w fun e w' => e = .returned (.tuple #[.string (outB (vQ s ^ n)), .int .i64 (outE (vQ s ^ n))]) ∧ Below w.heap.size w w' := by
  have R1 := hid (r2_Read w s hs)
  obtain ⟨p1, p2, p3⟩ := pow_nn h0 n
  have fits := vQ_fits hq
  have P1 := fun V v h => hid (r1_Power V v (vQ s).num.natAbs n h (by unfold ovQ at fits; omega) (by omega))
  have P2 := fun V v h => hid (r1_Power V v (vQ s).den n h (by unfold ovQ at fits; omega) (by omega))
  have PW := fun V v h (h1 : nDigits ((vQ s).num.natAbs ^ n) ≤ 4000) (h2 : nDigits ((vQ s).den ^ n) ≤ 4000) => hid (r2_Write V v (vQ s ^ n) h (by rw [p1]; exact Nat.le_trans (limbs_of_digits h1) (by omega)) (by rw [p2]; exact Nat.le_trans (limbs_of_digits h2) (by omega)))
  have OV := hid (fun (h : 4000 < nDigits ((vQ s).num.natAbs ^ n) ∨ 4000 < nDigits ((vQ s).den ^ n)) => (show outB (vQ s ^ n) = ⟨#[]⟩ ∧ outE (vQ s ^ n) = 5 from by
    have : ovQ (vQ s ^ n) := by unfold ovQ; rw [p1, p2]; exact h
    exact ⟨if_pos this, if_pos this⟩))
  have t1 : decide ((n : Int) < 0) = false := by simp
  have t2 : ((n : Int) == -9223372036854775808) = false := by rw [beq_eq_false_iff_ne]; omega
  have m0 : decide ((vQ s).num < 0) = false := by simpa using h0
  have HQ := hid hq; have HP1 := hid p1; have HP2 := hid p2; have HP3 := hid p3; have HM0 := hid m0
  clear hs hq p1 p2 p3 h0 m0 fits
  go_enter Tryz.func23, Tryz.ntmps23
  go_wp2_with fail
  refine R1.out.mono ?_; rintro e w1 ⟨⟨v, rfl, hv, -⟩, hb1⟩
  obtain ⟨N, D, rfl, hN, hD⟩ := (hv HQ.out).ex
  have HN := hid hN; have HD := hid hD
  obtain ⟨a1, c1, rfl, -⟩ := hN.openI
  obtain ⟨a2, c2, rfl, -⟩ := hD.openI
  rw [HM0.out, HQ.out]
  obtain ⟨k1, hk1⟩ : ∃ k, (limbs (vQ s).num.natAbs).length = k := ⟨_, rfl⟩
  obtain ⟨k2, hk2⟩ : ∃ k, (limbs (vQ s).den).length = k := ⟨_, rfl⟩
  rw [hk1] at HN ⊢
  rw [hk2] at HD ⊢
  have y1 := hid hb1
  have X1 := hid (Blk.new w1 #[.bool false, .slice a1 k1 c1, .slice a2 k2 c2] 89)
  have A1 := hid ((Below.refl w1.heap.size w1).alloc (Nat.le_refl _) (.cells #[.bool false, .slice a1 k1 c1, .slice a2 k2 c2] 89))
  clear hb1 hv hN hD hk1 hk2
  go_wp2_with fail
  refine (P1 _ _ (HN.out.call A1.out)).out.mono ?_
  rintro e w2 ⟨h, hb2⟩
  have X2 := hid (X1.out.call hb2)
  have y2 := hid (bnext (bnext y1.out A1.out) hb2)
  have D2 := hid ((HD.out.call A1.out).call hb2)
  have r2 := X2.out.cell 2
  simp at r2
  rcases h with ⟨d1, v3, rfl, hv3⟩ | ⟨d1, rfl⟩
  · have N2 := hid hv3; have DD1 := hid d1
    obtain ⟨a3, c3, rfl, -⟩ := hv3.openI
    obtain ⟨k3, hk3⟩ : ∃ k, (limbs ((vQ s).num.natAbs ^ n)).length = k := ⟨_, rfl⟩
    rw [hk3] at N2 ⊢
    clear hb2 hv3 d1 hk3
    go_wp2_with fail
    refine (P2 _ _ D2.out).out.mono ?_
    rintro e w3 ⟨h, hb3⟩
    have y3 := hid (bnext y2.out hb3)
    have N3 := hid (N2.out.call hb3)
    rcases h with ⟨d2, v4, rfl, hv4⟩ | ⟨d2, rfl⟩
    · have D3 := hid hv4; have DD2 := hid d2
      obtain ⟨a4, c4, rfl, -⟩ := hv4.openI
      obtain ⟨k4, hk4⟩ : ∃ k, (limbs ((vQ s).den ^ n)).length = k := ⟨_, rfl⟩
      rw [hk4] at D3 ⊢
      have iq : IsQ .i64 w3 (.agg #[.bool false, .slice a3 k3 c3, .slice a4 k4 c4]) (vQ s ^ n) := ⟨.slice a3 k3 c3, .slice a4 k4 c4, by rw [HP3.out], by rw [HP1.out]; exact N3.out, by rw [HP2.out]; exact D3.out⟩
      have IQ := hid iq
      clear hb3 hv4 d2 hk4 iq
      go_wp2_with fail
      refine (PW _ _ IQ.out DD1.out DD2.out).out.mono ?_; rintro e w4 ⟨rfl, hb4⟩
      have y4 := hid (bnext y3.out hb4)
      clear hb4
      go_wp2_with fail
      go_ret2
      exact ⟨rfl, y4.out⟩
    · obtain ⟨o1, o2⟩ := OV.out (.inr d2)
      have O1 := hid o1; have O2 := hid o2
      clear hb3 d2 o1 o2
      go_wp2_with fail
      go_ret2
      exact ⟨by rw [O1.out, O2.out]; rfl, y3.out⟩
  · obtain ⟨o1, o2⟩ := OV.out (.inl d1)
    have O1 := hid o1; have O2 := hid o2
    clear hb2 d1 o1 o2
    go_wp2_with fail
    refine (P2 _ _ D2.out).out.mono ?_
    rintro e w3 ⟨h, hb3⟩
    have y3 := hid (bnext y2.out hb3)
    rcases h with ⟨-, v4, rfl, hv4⟩ | ⟨-, rfl⟩
    all_goals
      try obtain ⟨a4, c4, rfl, -⟩ := hv4.openI
      try clear hv4
      clear hb3
      go_wp2_with fail
      go_ret2
      exact ⟨by rw [O1.out, O2.out]; rfl, y3.out⟩
end Go.Proofs.YtjgcjjbnnlnilaaGreatDoor

/- Walks: law05.PickNear at good weights. -/
namespace Go.Proofs.YtjgcjjbnnlnilaaGreatDoor
open Go.RowKit Go.Shelf
open Go.Lib (decDigits nDigits)
set_option linter.unusedVariables false
set_option linter.unusedSimpArgs false

set_option maxRecDepth 100000 in
set_option maxHeartbeats 8000000 in
theorem pn_ok (w : World) (v : Value) (l : List ByteArray) (m : Nat) (hv : Row w v (strs l)) (hg : ¬ longB l = true) (he : lawE l m = 0) (hL : Lay w) :
    Calls Tryz.prog 5 #[v, .int .i64 (m : Nat)] w fun e w' => e = .returned (.bool true) ∧ Below w.heap.size w w' := by
  have HLV := hid (w_lives w hL)
  have HLG := fun V hV => hid (p_long V v l hV)
  have hg2 := longB_no hg
  rw [Bool.not_eq_true] at hg
  rw [hg] at HLG
  have HV := hid hv; have HL := hid hL
  obtain ⟨hW, -, hm⟩ := lawE_ok he
  have hm : m ≤ 256 := by omega
  obtain ⟨D1, D2, D3⟩ := wsE_ok hW
  have hS := wsE_pos hW
  have hl1 := fun x hx => Nat.le_trans (hg2.1 x hx) (by omega : 300 ≤ 1000000)
  have P1 := fun V v hV hLV => hid (p_Law V v l m hV hl1 hLV)
  have P2 := fun V v hV hLV => hid (p_Exact V v l hV hl1 hLV)
  have er : lawR l (m : Nat) = sortM (lawP (l.map bN) (2 ^ m) l.length) := by rw [lawR, if_pos he, Int.toNat_natCast]
  have ex : exR l = sortM (exL (l.map bN) (l.map bN).sum l.length) := by rw [exR, if_pos hW]
  rw [er, he] at P1
  rw [ex, hW] at P2
  have few : Few (l.map bN) := ⟨D2.len, fun x hx => by
    obtain ⟨y, hy, rfl⟩ := List.mem_map.1 hx
    have h1 := hg2.1 y hy
    have h2 : y = numB (bN y) := by
      have h3 : y ∈ (l.map bN).map numB := by rw [← D1]; exact hy
      obtain ⟨z, -, rfl⟩ := List.mem_map.1 h3
      rw [bN_num]
    rw [h2, numB_size] at h1
    exact h1, hS⟩
  obtain ⟨a, c, rfl, c1, c2, -⟩ := hv.openS
  obtain ⟨ws, hws⟩ : ∃ ws, l.map bN = ws := ⟨_, rfl⟩
  obtain ⟨N, hN⟩ : ∃ N, l.length = N := ⟨_, rfl⟩
  have hlen : ws.length = N := by rw [← hws, List.length_map]; exact hN
  have hN64 : N ≤ 64 := by have := D2.len; rw [List.length_map] at this; omega
  rw [hws] at P1 P2 few hS D1
  rw [hN] at P1 P2 HLG HV c1 D3 ⊢
  have HWS := hid hlen; have HPOS := hid hS; have HN := hid hN; have HF := hid few; have HM := hid hm; have HD1 := hid D1
  obtain ⟨ho1, ho2, ho3⟩ := half_ok
  have PP := fun V => hid (r2_Pow_nat V ⟨#[49, 47, 50]⟩ m (by decide) ho1 (by rw [ho2]; exact ho3) (by omega))
  obtain ⟨pp1, pp2⟩ := near_pow hm
  rw [ho2, pp1, pp2] at PP
  have szs := tx_size ((sz_dig hm).fits (by omega) (by omega))
  have tws := tx_size ((tw_dig hm).fits (by omega) (by omega))
  have PM := fun V => hid (r2_Mul V (numB 2) (txQ (szQ (2 ^ m))) (by rw [numB_size, Go.Lib.nDigits_small (by omega)]; omega) (by omega))
  obtain ⟨mm1, mm2⟩ := near_mul hm (k := 2) (by rw [Go.Lib.nDigits_small (by omega)]; omega)
  rw [mm1, mm2, numB_two', show (mkRat ((2 : Nat) : Int) (2 ^ m) : Rat) = twQ (2 ^ m) from rfl] at PM
  have HTS := hid tws; have HSS := hid szs
  have t0 := hid (tot_start ws)
  have t1 := hid (tot_end few)
  clear hL hv hg hg2 er ex he hW D1 D2 hl1 hws hN hlen hS few hm ho1 ho2 ho3 pp1 pp2 mm1 mm2 szs tws
  go_enter Tryz.func5, Tryz.ntmps5
  go_wp2_with fail
  refine HLV.out.mono ?_; rintro e w1 ⟨rfl, hb1⟩
  have y1 := hid hb1; clear hb1
  go_wp2_with fail
  refine (HLG _ (HV.out.call y1.out)).out.mono ?_; rintro e w2 ⟨rfl, rfl⟩
  go_wp2_with fail
  refine (P1 _ _ (HV.out.call y1.out) (HL.out.call y1.out)).out.mono ?_; rintro e w2 ⟨⟨u, rfl, hu⟩, hb2⟩
  have y2 := hid (bnext y1.out hb2)
  have U2 := hid hu
  obtain ⟨a2, k2, rfl, -⟩ := hu.ex
  obtain ⟨DD, hDD⟩ : ∃ D, (sortM (lawP ws (2 ^ m) N)).length = D := ⟨_, rfl⟩
  rw [hDD] at U2 ⊢
  clear hb2 hu hDD
  go_wp2_with fail
  refine (P2 _ _ (HV.out.call y2.out) (HL.out.call y2.out)).out.mono ?_; rintro e w3 ⟨⟨u, rfl, hu⟩, hb3⟩
  have y3 := hid (bnext y2.out hb3)
  have U3 := hid (U2.out.call hb3)
  have X3 := hid hu
  obtain ⟨a3, k3, rfl, -⟩ := hu.ex
  obtain ⟨EE, hEE⟩ : ∃ D, (sortM (exL ws ws.sum N)).length = D := ⟨_, rfl⟩
  rw [hEE] at X3 ⊢
  clear hb3 hu hEE
  go_wp2_with fail
  refine (PP _).out.mono ?_; rintro e w4 ⟨rfl, hb4⟩
  have y4 := hid (bnext y3.out hb4)
  have U4 := hid (U3.out.call hb4); have X4 := hid (X3.out.call hb4)
  obtain ⟨SZ, hSZ⟩ : ∃ s, txQ (szQ (2 ^ m)) = s := ⟨_, rfl⟩
  rw [hSZ] at PM ⊢
  have HSZ := hid hSZ
  clear hb4 hSZ PP
  go_wp2_with fail
  refine (PM _).out.mono ?_; rintro e w5 ⟨rfl, hb5⟩
  have y5 := hid (bnext y4.out hb5)
  have U5 := hid (U4.out.call hb5); have X5 := hid (X4.out.call hb5)
  obtain ⟨TW, hTW⟩ : ∃ s, txQ (twQ (2 ^ m)) = s := ⟨_, rfl⟩
  rw [hTW]
  have HTW := hid hTW
  clear hb5 hTW PM
  go_wp2_with fail
  go_loopw [13, 14, 15] (fun s13 s14 s15 wr => ∃ i : Nat, s13 = .int .i64 (nzW ws i : Nat) ∧ s14 = .string (txQ (totQ ws i)) ∧ s15 = .int .i64 (i : Nat) ∧ i ≤ N ∧ Hid (Below w5.heap.size w5 wr)) (fun s13 s14 s15 wr => N - (intOf s15).toNat)
  case atStart => exact ⟨0, rfl, by rw [t0.out], rfl, Nat.zero_le _, Below.refl _ _⟩
  case round =>
    obtain ⟨i, rfl, rfl, rfl, hi, hB⟩ := hrel
    have yr := hid (bnext y5.out hB.out)
    have hnz := nzW_le ws i
    have UR := hid (U5.out.call hB.out); have XR := hid (X5.out.call hB.out)
    by_cases hlt : i < N
    · have hiw : i < ws.length := by rw [HWS.out]; exact hlt
      have PI := fun V => hid (r2_Int V i (by omega))
      have va := val_law (ws := ws) (t := 2 ^ m) hlt
      have vb := val_exact (ws := ws) (S := ws.sum) hlt
      have PV1 := fun V hV => hid (w_value V _ _ (numB i) (show MRow V (.slice a2 DD k2) (sortM (lawP ws (2 ^ m) N)) from hV))
      have PV2 := fun V hV => hid (w_value V _ _ (numB i) (show MRow V (.slice a3 EE k3) (sortM (exL ws ws.sum N)) from hV))
      rw [va] at PV1
      rw [vb] at PV2
      obtain ⟨s1, s2⟩ := near_sub HF.out HM.out i
      have sxA : (shB (cnt ws (2 ^ m) i) (2 ^ m)).size ≤ 1000000 := by rw [lw_tx HF.out HM.out]; have := tx_size ((lw_dig HF.out HM.out i).fits (by omega) (by omega)); omega
      have sxB : (shB (ws.getD i 0) ws.sum).size ≤ 1000000 := by rw [ex_tx HF.out]; have := tx_size ((ex_dig HF.out i).fits (by omega) (by omega)); omega
      have sxG := tx_size ((gap_dig HF.out HM.out i).fits (by omega) (by omega))
      have sxT := tx_size ((tot_dig HF.out i).fits (by omega) (by omega))
      have PS := fun V => hid (r2_Sub V _ _ sxB sxA)
      rw [s1, s2] at PS
      obtain ⟨g1, g2⟩ := near_sign HF.out HM.out hiw
      have PG := fun V => hid (r2_Sign V (txQ (gapQ ws (2 ^ m) i)) (by omega))
      rw [g2] at PG
      obtain ⟨l1, l2⟩ := near_less HF.out HM.out hiw
      have PC := fun V => hid (r2_Cmp V (txQ (gapQ ws (2 ^ m) i)) (txQ (twQ (2 ^ m))) (by omega) (by have := HTS.out; omega))
      rw [l1, l2, HTW.out] at PC
      obtain ⟨d1, d2⟩ := near_add HF.out hiw
      have PA := fun V => hid (r2_Add V (txQ (totQ ws i)) (shB (ws.getD i 0) ws.sum) (by omega) sxB)
      rw [d1, d2] at PA
      obtain ⟨sg, hsg⟩ : ∃ z, sgB (txQ (gapQ ws (2 ^ m) i)) = z := ⟨_, rfl⟩
      rw [hsg] at PG g1
      have q1 : decide (sg < 0) = false := by simp; omega
      obtain ⟨x, hx⟩ : ∃ x, ws.getD i 0 = x := ⟨_, rfl⟩
      rw [hx] at PV2 PS PA
      have hl : l[i]? = some (numB x) := by
        rw [HD1.out, List.getElem?_map, List.getElem?_eq_getElem hiw, ← hx, List.getD_eq_getElem?_getD, List.getElem?_eq_getElem hiw]; rfl
      obtain ⟨g', o', rfl, hg', hc'⟩ := HV.out.at (strs_get hl)
      have hc2 := fun V (hb : Below wr.heap.size wr V) => ((bnext yr.out hb).cell (p := ⟨g', o' + i, none⟩) hg').trans hc'
      have HC2 := hid hc2
      have b1 : (0 : Int) ≤ (i : Int) := by omega
      have b2 : (i : Int) < (N : Int) := by omega
      have wi : IntKind.i64.wrap ((i : Int) + 1) = ((i + 1 : Nat) : Int) := by rw [IntWalk.i64_in _ ⟨by omega, by omega⟩]; omega
      obtain ⟨I0, hI0⟩ : ∃ s, numB i = s := ⟨_, rfl⟩
      obtain ⟨A0, hA0⟩ : ∃ s, shB (cnt ws (2 ^ m) i) (2 ^ m) = s := ⟨_, rfl⟩
      obtain ⟨B0, hB0⟩ : ∃ s, shB x ws.sum = s := ⟨_, rfl⟩
      obtain ⟨G0, hG0⟩ : ∃ s, txQ (gapQ ws (2 ^ m) i) = s := ⟨_, rfl⟩
      obtain ⟨T0, hT0⟩ : ∃ s, txQ (totQ ws i) = s := ⟨_, rfl⟩
      obtain ⟨T1, hT1⟩ : ∃ s, txQ (totQ ws (i + 1)) = s := ⟨_, rfl⟩
      obtain ⟨nz, hnz0⟩ : ∃ n, nzW ws i = n := ⟨_, rfl⟩
      rw [hI0] at PI PV1 PV2
      rw [hA0] at PV1 PS
      rw [hB0] at PV2 PS PA
      rw [hG0] at PS PG PC
      rw [hT0, hT1] at PA
      rw [hT0, hnz0]
      rw [hnz0] at hnz
      have HT1 := hid hT1; have HNZ := hid hnz0; have HX := hid hx
      have wz : IntKind.i64.wrap ((nz : Int) + 1) = ((nz + 1 : Nat) : Int) := by rw [IntWalk.i64_in _ ⟨by omega, by omega⟩]; omega
      by_cases h0 : x = 0
      · have hb0 : B0 = ⟨#[48]⟩ := by rw [← hB0, h0, shB_zero]
        have hx0 : numB x = ⟨#[48]⟩ := by rw [h0, numB_zero]
        subst hb0
        rw [hx0] at HC2
        have eN : Hid (nzW ws (i + 1) = nz) := by show nzW ws (i + 1) = nz; rw [nzW, if_neg (by rw [hx, h0]; simp), hnz0]; rfl
        clear h0 hx0 hx hI0 hA0 hB0 hG0 hT0 hT1 hnz0 hl hc' hg' hc2 va vb s1 s2 sxA sxB sxG sxT g1 g2 l1 l2 d1 d2 hsg hnz hiw
        go_wp2_with fail
        refine (PI _).out.mono ?_; rintro e w6 ⟨rfl, rfl⟩
        go_wp2_with fail
        refine (PV1 _ UR.out).out.mono ?_; rintro e w6 ⟨rfl, rfl⟩
        go_wp2_with fail
        refine (PV2 _ XR.out).out.mono ?_; rintro e w6 ⟨rfl, rfl⟩
        go_wp2_with fail
        refine (PS _).out.mono ?_; rintro e w6 ⟨rfl, hb6⟩
        have z6 := hid hb6; clear hb6
        go_wp2_with fail
        refine (PG _).out.mono ?_; rintro e w7 ⟨rfl, hb7⟩
        have z7 := hid (bnext z6.out hb7); clear hb7
        go_wp2_with fail
        refine (PC _).out.mono ?_; rintro e w8 ⟨rfl, hb8⟩
        have z8 := hid (bnext z7.out hb8); clear hb8
        have hcell := HC2.out _ z8.out
        go_wp2_with fail
        refine (PA _).out.mono ?_; rintro e w9 ⟨rfl, hb9⟩
        have z9 := hid (bnext z8.out hb9); clear hb9
        go_wp2_with fail
        go_roundw
        case rel => exact ⟨i + 1, by rw [eN.out], by rw [HT1.out], by go_num, by omega, bnext hB.out z9.out⟩
        case measure => simp [intOf] <;> omega
      · have hx1 : (numB x).toList == [48] ↔ False := by
          have := ne_lit (show ¬ numB x = ⟨[48].toArray⟩ by rw [← numB_zero]; exact numB_ne h0)
          rw [this]; simp
        have hne : ((numB x).toList == [48]) = false := ne_lit (show ¬ numB x = ⟨[48].toArray⟩ by rw [← numB_zero]; exact numB_ne h0)
        obtain ⟨X0, hX0⟩ : ∃ s, numB x = s := ⟨_, rfl⟩
        rw [hX0] at hne HC2
        have eN : Hid (nzW ws (i + 1) = nz + 1) := by show nzW ws (i + 1) = nz + 1; rw [nzW, if_pos (by rw [hx]; exact h0), hnz0]
        clear h0 hx1 hX0 hx hI0 hA0 hB0 hG0 hT0 hT1 hnz0 hl hc' hg' hc2 va vb s1 s2 sxA sxB sxG sxT g1 g2 l1 l2 d1 d2 hsg hnz hiw
        go_wp2_with fail
        refine (PI _).out.mono ?_; rintro e w6 ⟨rfl, rfl⟩
        go_wp2_with fail
        refine (PV1 _ UR.out).out.mono ?_; rintro e w6 ⟨rfl, rfl⟩
        go_wp2_with fail
        refine (PV2 _ XR.out).out.mono ?_; rintro e w6 ⟨rfl, rfl⟩
        go_wp2_with fail
        refine (PS _).out.mono ?_; rintro e w6 ⟨rfl, hb6⟩
        have z6 := hid hb6; clear hb6
        go_wp2_with fail
        refine (PG _).out.mono ?_; rintro e w7 ⟨rfl, hb7⟩
        have z7 := hid (bnext z6.out hb7); clear hb7
        go_wp2_with fail
        refine (PC _).out.mono ?_; rintro e w8 ⟨rfl, hb8⟩
        have z8 := hid (bnext z7.out hb8); clear hb8
        have hcell := HC2.out _ z8.out
        go_wp2_with fail
        refine (PA _).out.mono ?_; rintro e w9 ⟨rfl, hb9⟩
        have z9 := hid (bnext z8.out hb9); clear hb9
        go_wp2_with fail
        go_roundw
        case rel => exact ⟨i + 1, by rw [eN.out]; go_num, by rw [HT1.out], by go_num, by omega, bnext hB.out z9.out⟩
        case measure => simp [intOf] <;> omega
    · obtain rfl : i = N := by omega
      have q1 : decide ((i : Int) < (i : Int)) = false := by simp
      obtain ⟨f1, f2⟩ := late_few (2 ^ m) HPOS.out
      rw [HWS.out] at f1 f2
      have ht1 := t1.out
      rw [HWS.out] at ht1
      rw [ht1]
      obtain ⟨nz, hnz0⟩ : ∃ n, nzW ws i = n := ⟨_, rfl⟩
      rw [hnz0] at f1 f2 hnz ⊢
      have wz : IntKind.i64.wrap ((nz : Int) - 1) = ((nz - 1 : Nat) : Int) := by rw [IntWalk.i64_in _ ⟨by omega, by omega⟩]; omega
      have PI := fun V => hid (r2_Int V (nz - 1) (by omega))
      have knd : nDigits (nz - 1) ≤ 300 := Nat.le_trans (nDigits_le (k := 2) (by omega) (by omega)) (by omega)
      obtain ⟨m1, m2⟩ := near_mul HM.out knd
      have PM := fun V => hid (r2_Mul V (numB (nz - 1)) (txQ (szQ (2 ^ m))) (by rw [numB_size]; omega) (by have := HSS.out; omega))
      rw [m1, m2, HSZ.out] at PM
      obtain ⟨l1, l2⟩ := near_late HM.out f2 knd
      have sL : (shB (2 ^ m - lwS ws (2 ^ m) i) (2 ^ m)).size ≤ 1000000 := Nat.le_trans (outB_size _) (by omega)
      have sK : (txQ (mkRat ((nz - 1 : Nat) : Int) (2 ^ m))).size ≤ 1000000 := by
        have := tx_size (frac_fits (K := 300) (z := ((nz - 1 : Nat) : Int)) (two_ne m) (by simpa using knd) (by have := two_nd (u := m) (by have := HM.out; omega); omega) (by omega))
        omega
      have PC := fun V => hid (r2_Cmp V _ _ sL sK)
      rw [l2] at PC
      have PV := fun V hV => hid (w_value V _ _ lateB (show MRow V (.slice a2 DD k2) (sortM (lawP ws (2 ^ m) i)) from hV))
      rw [val_late] at PV
      unfold lateB at PV
      obtain ⟨I0, hI0⟩ : ∃ s, numB (nz - 1) = s := ⟨_, rfl⟩
      obtain ⟨K0, hK0⟩ : ∃ s, txQ (mkRat ((nz - 1 : Nat) : Int) (2 ^ m)) = s := ⟨_, rfl⟩
      obtain ⟨L0, hL0⟩ : ∃ s, shB (2 ^ m - lwS ws (2 ^ m) i) (2 ^ m) = s := ⟨_, rfl⟩
      rw [hI0] at PI PM
      rw [hK0] at PM PC l1
      rw [hL0] at PV PC l1
      obtain ⟨o, ho⟩ : ∃ o, cmB L0 K0 = o := ⟨_, rfl⟩
      rw [ho] at PC l1
      have q2 : decide (o ≤ 0) = true := by simpa using l1
      clear hlt f1 f2 ht1 hnz0 hnz knd m1 m2 l1 l2 sL sK hI0 hK0 hL0 ho
      go_wp2_with fail
      refine (PI _).out.mono ?_; rintro e w6 ⟨rfl, rfl⟩
      go_wp2_with fail
      refine (PM _).out.mono ?_; rintro e w6 ⟨rfl, hb6⟩
      have z6 := hid hb6
      have U6 := hid (UR.out.call hb6)
      clear hb6
      go_wp2_with fail
      refine (PV _ U6.out).out.mono ?_; rintro e w7 ⟨rfl, rfl⟩
      go_wp2_with fail
      refine (PC _).out.mono ?_; rintro e w8 ⟨rfl, hb8⟩
      have z8 := hid (bnext (bnext yr.out z6.out) hb8); clear hb8
      go_wp2_with fail
      go_ret
      exact ⟨rfl, z8.out⟩
end Go.Proofs.YtjgcjjbnnlnilaaGreatDoor

/- The walk of law05.PickNear, whole. -/
namespace Go.Proofs.YtjgcjjbnnlnilaaGreatDoor
open Go.RowKit Go.Shelf

theorem w_PickNear (w : World) (v : Value) (l : List ByteArray) (n : Int) (hv : Row w v (strs l)) (hL : Lay w) :
    Calls Tryz.prog 5 #[v, .int .i64 n] w fun e w' => e = .returned (.bool true) ∧ Below w.heap.size w w' := by
  by_cases h : longB l = true ∨ lawE l n ≠ 0
  · exact pn_err w v l n hv hL h
  · have h1 : ¬ longB l = true := fun e => h (.inl e)
    have h4 : lawE l n = 0 := Decidable.not_not.1 fun e => h (.inr e)
    obtain ⟨m, rfl⟩ : ∃ m : Nat, n = (m : Nat) := ⟨n.toNat, by have := (lawE_ok h4).2.1; omega⟩
    exact pn_ok w v l m hv h1 h4 hL
end Go.Proofs.YtjgcjjbnnlnilaaGreatDoor

/- PickNear: the row and the tied card: for every input the law answers true; conditions: none beyond the row's own. -/
namespace Go.Proofs.YtjgcjjbnnlnilaaGreatDoor
open Go.ChangeShapes Go.WideShapes Go.ChangeAt Go.RowKit
open Go.ChangeMaps (open_string shut_string)
set_option linter.unusedVariables false

set_option maxRecDepth 100000 in
set_option maxHeartbeats 1000000 in
theorem pickNear_lifted (os : Os) (started : os.Started) (H : Type) (enc : TypeId × Value → H) (F : Stop.Interp) :
    ReturnsInHanded {} Tryz.checked os 5 .any ((OpenSpec.ofChange Rows.pickNearSpec).preRow enc Tryz.prog Tryz.f5 Rows.pickNearRow.domain false Rows.pickNearRow.laid)
      (((OpenSpec.ofChange Rows.pickNearSpec).at F).post enc Tryz.prog Tryz.f5 false true false false) := by
  refine returnsInHanded_of_row (C := Tryz.checked) (s := OpenSpec.ofChange Rows.pickNearSpec) own started (by kernel_rfl) Tryz.func5
    (ChangeSpec.witness_shaped (enc := enc) (C := Tryz.checked) (os := os) (s := Rows.pickNearSpec) (conds := Rows.pickNearRow.domain) (fn := Tryz.f5) (X := fun w _ => laidMetH Tryz.prog Rows.pickNearRow.laid w) false (World.laidAll Tryz.prog os Rows.pickNearRow.laid) #[.slice none 0 0, .int .i64 0] 8 (World.laidAll_os _ _ _)
      (World.shaped_of_ZipB (by kernel_rfl) (by kernel_rfl)) (by kernel_rfl) (by kernel_rfl) (by kernel_rfl)
      (by rw [MakeChecks.laidMetH_plain _ _ _ (by kernel_rfl)]; exact laidMet_laidAll _ (by kernel_rfl) (by kernel_rfl))) ?_
  intro W base args ds gs before hval0 hW _ _ _ hL hsh _
  have hval : ∀ (j : Nat) t v, Tryz.f5.params[j]? = some t → args[j]? = some v → Value.okWide Tryz.prog W .any base t v := hval0
  have hW' := hW
  obtain ⟨p, q, hA0, hV, rfl, hfz, hnd⟩ := hW
  have hA : DataW.TrodAll enc Tryz.prog W 0 (fun _ => true) true Tryz.f5.params.toList args.toList ds p := hA0
  rw [Tryz.params5] at hA hval
  obtain ⟨v0, vs0, d0, ds0, p0, q0, hargs, rfl, rfl, h0, r0⟩ := trodAll_cons hA
  obtain ⟨v1, vs1, d1, ds1, p1, q1, rfl, rfl, rfl, h1, r1⟩ := trodAll_cons r0
  obtain ⟨rfl, rfl, rfl⟩ := trodAll_nil r1
  obtain rfl : args = #[v0, v1] := by cases args; simp_all
  obtain ⟨rfl, rfl⟩ := trodVars_none hV
  have k0 := h0
  have lt0 : ∀ x ∈ p0, x.block < W.heap.size := by obtain ⟨m, hm⟩ := k0; exact DataW.trod_lt m _ _ _ hm
  have k1 := h1
  have lt1 : ∀ x ∈ p1, x.block < W.heap.size := by obtain ⟨m, hm⟩ := k1; exact DataW.trod_lt m _ _ _ hm
  obtain ⟨l0, R0, Z0⟩ := open_txts Tryz.underlying22 Tryz.underlying23 (by kernel_rfl) (hval 0 22 v0 rfl rfl) h0
  obtain ⟨a1, rfl, rfl, rfl, w1⟩ := open_int Tryz.underlying3 (hval 1 3 v1 rfl rfl) h1
  have b1 := bounds_i64 w1
  clear hA0 hval0
  refine (w_PickNear W v0 l0 a1 R0 (lay_of hL hsh)).mono fun e W' ⟨he, bel⟩ => ?_
  subst he
  exact ⟨_, rfl, _, _, _, [], _, [], hW', trodAll_mk1 (shut_bool Tryz.underlying4 _), (trodAll_cons_mk (Below.trod laidOut (by kernel_rfl) (of_decide_eq_true (by kernel_rfl)) k0 bel lt0) (trodAll_cons_mk (Below.trod laidOut (by kernel_rfl) (of_decide_eq_true (by kernel_rfl)) k1 bel lt1) trodAll_mk0)), rfl, bel.frame _, fun h => by cases h⟩

theorem pickNear_holds : Rows.pickNearRow.holds Tryz.pinned (OpenSpec.ofChange Rows.pickNearSpec) :=
  OpenClaim.holds_of_cond 5 Tryz.f5 rfl rfl rfl rfl rfl rfl rfl ⟨rfl, rfl, rfl, rfl, rfl⟩ rfl rfl rfl rfl rfl (by kernel_rfl) Tryz.func5 (by kernel_rfl)
    (of_decide_eq_true (by kernel_rfl)) (by unfold Func.isWrapper; first | (rw [if_pos (by decide +kernel)]; kernel_rfl) | (rw [if_neg (by decide +kernel)]; exact ⟨rfl, rfl⟩))
    (fun os started H enc _ F0 => by rw [OpenClaim.pre_eq_preRow]; exact pickNear_lifted os started H enc F0)

theorem pickNear_card : Rows.PickNearCardSaid :=
  Claim7.holds_tied_plain_at .later [] [.data, .data, .data, .data, .sentinel, .sentinel, .pinned] true Rows.pickNearCard.stood.harness true
    pickNear_holds (fun _ h => by cases h) (by kernel_rfl) (fun _ h => by cases h) pickNear_row_tie rfl ⟨rfl, rfl⟩ (by kernel_rfl) rfl
    (fun f fn hf hfn => by
      obtain rfl : f = 5 := Option.some.inj ((show Tryz.prog.funcNamed "privhouse/privhouselaw05.PickNear" = some 5 by kernel_rfl).symm.trans hf) |>.symm
      obtain rfl : fn = Tryz.f5 := (Option.some.inj (Tryz.func5.symm.trans hfn)).symm
      exact ⟨by kernel_rfl, fun j t ht => by
        rw [Tryz.params5] at ht
        have hm : t ∈ [22, 3] := by simpa using Array.mem_of_getElem? ht
        have hall : ([22, 3].all fun u => !Tryz.prog.wantsStandIn u) = true := by kernel_rfl
        exact (show Tryz.prog.wantsStandIn t = false by simpa using List.all_eq_true.1 hall t hm)⟩)
    (by kernel_rfl)
#print axioms pickNear_card
end Go.Proofs.YtjgcjjbnnlnilaaGreatDoor
