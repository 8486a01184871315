/- PickNames: the row and the tied card: for every input the law answers true; conditions: none beyond the row's own. -/
import Derived.Test.YtjgcjjbnnlnilaaGreatDoorKc2
import Derived.Lib.AppendStr
import Derived.Lib.JoinLaws
import Derived.Deep.OwnRows
import Derived.IntWalk
namespace Go.Proofs.YtjgcjjbnnlnilaaGreatDoor
open Go.RowKit
set_option linter.unusedVariables false
set_option linter.unusedSimpArgs false

theorem info_byte : (Tryz.prog.info? 5).map (fun i => (i.zero, i.size, i.bytes)) = some (some (.int .u8 0), 1, 1) := by kernel_rfl
theorem room_bytes (n : Nat) (hn : n ≤ 3000000) (W : World) : (Instr.makeSlice 100 (.int .i64 0) (.int .i64 (n : Int))).run Tryz.prog W = .ok (.slice (some ⟨W.heap.size, 0, none⟩) 0 n) (W.alloc (.cells (madeCells #[.int .u8 0] n) 5)) :=
  run_make_room (P := Tryz.prog) 100 5 (.int .u8 0) 1 Tryz.underlying100 (by kernel_rfl) rfl .i64 .i64 n (by omega) (by omega) W
theorem owns_bytes (w : World) (n : Nat) (hn : n ≤ 3000000) : (w.alloc (.cells (madeCells #[.int .u8 0] n) 5)).ownsRow w.heap.size 5 1 (.slice (some ⟨w.heap.size, 0, none⟩) 0 n) 0 [] :=
  World.ownsRow_made w _ n (Nat.le_refl _) (by unfold maxLen; omega) (by have := size_madeCells #[Value.int .u8 0] n; simpa using this)

/-- The bytes of a text, n times. -/
def repL (l : List UInt8) : Nat → List UInt8
  | 0 => []
  | n + 1 => repL l n ++ l
theorem repL_length (l : List UInt8) : ∀ n, (repL l n).length = n * l.length
  | 0 => by simp [repL]
  | n + 1 => by rw [repL, List.length_append, repL_length l n, Nat.add_mul, Nat.one_mul]
def byteV (l : List UInt8) : List Value := l.map fun b => Value.int .u8 b.toNat

set_option maxRecDepth 100000 in
set_option maxHeartbeats 2000000 in
theorem k_Times (w : World) (s : ByteArray) (n : Nat) (hs : s.size ≤ 100) (hn : n ≤ 10000) (hs0 : 0 < s.size) :
    Calls Tryz.prog 30 #[.string s, .int .i64 (n : Nat)] w fun e w' => e = .returned (.string ⟨(repL s.data.toList n).toArray⟩) ∧ Below w.heap.size w w' := by
  obtain ⟨i0, hi, hz0, hz1, hz2⟩ := info_parts info_byte
  have hK : n * s.size ≤ 1000000 := Nat.le_trans (Nat.mul_le_mul hn hs) (by omega)
  have wk : IntKind.i64.wrap ((n : Int) * (s.size : Int)) = ((n * s.size : Nat) : Int) := by
    rw [← Int.natCast_mul, IntWalk.i64_in _ ⟨by omega, by omega⟩]
  have mx : max (0 : Int) (n : Int) = (n : Int) := by omega
  have hmk := room_bytes (n * s.size) (by omega)
  have hln : s.data.toList.length = s.size := by simp
  have HLN := hid hln
  have O0 := hid (owns_bytes w (n * s.size) (by omega))
  have B0 := hid ((Below.refl w.heap.size w).alloc (Nat.le_refl _) (.cells (madeCells #[.int .u8 0] (n * s.size)) 5))
  obtain ⟨K, hKK⟩ : ∃ K, n * s.size = K := ⟨_, rfl⟩
  rw [hKK] at hK wk hmk O0 B0
  have HKK := hid hKK
  obtain ⟨z, hz⟩ : ∃ z, s.size = z := ⟨_, rfl⟩
  rw [hz] at wk hs hs0 HKK HLN
  have HZ := hid hz
  clear hln hKK
  go_enter Tryz.func30, Tryz.ntmps30
  go_wp2_with fail
  have hlen : ∀ i, i ≤ n → i * z ≤ K := fun i h => by rw [← HKK.out]; exact Nat.mul_le_mul_right _ h
  have HLEN := hid hlen
  clear hlen wk mx hmk
  go_loopw [5, 6] (fun s5 s6 wr => ∃ i : Nat, s6 = .int .i64 (i : Nat) ∧ i ≤ n ∧ Hid (s5 ≠ .slice none 0 0) ∧ Hid (wr.ownsRow w.heap.size 5 1 s5 (i * z) (byteV (repL s.data.toList i))) ∧ Hid (Below w.heap.size w wr)) (fun s5 s6 wr => n - (intOf s6).toNat)
  case atStart => exact ⟨0, rfl, Nat.zero_le _, fun e => by simp at e, by rw [Nat.zero_mul]; exact O0.out, B0.out⟩
  case round =>
    obtain ⟨i, rfl, hi2, hne, hO, hB⟩ := hrel
    by_cases hlt : i < n
    · have h1 := HLEN.out (i + 1) hlt
      rw [Nat.add_mul, Nat.one_mul] at h1
      have b1 : (0 : Int) ≤ (i : Int) := by omega
      have b2 : (i : Int) < (n : Int) := by omega
      go_wp2_with (at_builtin; refine Lib.wpList_append_own_string _ rfl _ _ 100 9 rfl w.heap.size 5 i0 Tryz.underlying100 Tryz.underlying9 hi hz0 hz1 hz2 _ (i * z) _ rfl hO.out s rfl (by have := HZ.out; unfold maxLen; omega) (by have := HZ.out; omega) hB.out.size ?_; intro v' w3 hown3 hgrow3 hnn)
      have hO3 := hid (show w3.ownsRow w.heap.size 5 1 v' ((i + 1) * z) (byteV (repL s.data.toList (i + 1))) by
        rw [repL, byteV, List.map_append, Nat.add_mul, Nat.one_mul, ← HZ.out]; rw [HZ.out]; rw [HZ.out] at hown3; exact hown3)
      have hN3 : Hid (v' ≠ .slice none 0 0) := fun e => hne.out (hnn.1 e).1
      have hB3 : Hid (Below w.heap.size w w3) := by
        refine hB.out.trans ⟨hgrow3.os, hgrow3.tape, hgrow3.output, hgrow3.size, fun k hk => hgrow3.block k (by have := hB.out.size; omega) (fun e => ?_)⟩
        have := (hO.out.lt k e.symm).1
        omega
      clear hown3 hgrow3 hnn
      go_wp2_with fail
      go_roundw
      case rel => exact ⟨i + 1, by go_num, by omega, hN3, hO3, hB3⟩
      case measure => simp [intOf] <;> omega
    · obtain rfl : i = n := by omega
      have q1 : decide ((i : Int) < (i : Int)) = false := by simp
      have ho := hO.out
      rcases ho.2 with ⟨e, -⟩ | ⟨g, cap, cur, rfl, hb1, hg, hc1, hc2, hc3, hc4⟩
      · exact absurd e hne.out
      · have hl : (repL s.data.toList i).length = i * z := by rw [repL_length, HLN.out]
        have hcv : (convert 100 9 (.slice (some ⟨g, 0, none⟩) (i * z) cap)).run Tryz.prog wr = .ok (.string ⟨(repL s.data.toList i).toArray⟩) wr := by
          have := Go.run_convert_bytes_back (P := Tryz.prog) wr 100 9 5 ⟨g, 0, none⟩ cap (repL s.data.toList i) Tryz.underlying100 Tryz.underlying5 Tryz.underlying9 (fun j hj => ho.cells rfl j _ (by
            unfold byteV
            rw [List.getElem?_map, List.getElem?_eq_getElem hj]
            rfl))
          rwa [hl] at this
        clear hlt ho hb1 hg hc1 hc2 hc3 hc4 hl
        go_wp2_with fail
        go_ret
        exact ⟨rfl, hB.out⟩
end Go.Proofs.YtjgcjjbnnlnilaaGreatDoor

/- Plain: the examples of PickNames. -/
namespace Go.Proofs.YtjgcjjbnnlnilaaGreatDoor
open Go.RowKit
open Go.Lib (decDigits nDigits)
set_option linter.unusedVariables false

/-- Small texts. -/
def d0 : ByteArray := ⟨#[48]⟩
def d1 : ByteArray := ⟨#[49]⟩
def d2 : ByteArray := ⟨#[50]⟩
def d5 : ByteArray := ⟨#[53]⟩

theorem bN_d0 : bN d0 = 0 := by rw [show d0 = numB 0 from numB_zero.symm, bN_num]
theorem bN_d1 : bN d1 = 1 := by rw [show d1 = numB 1 from numB_one.symm, bN_num]
theorem bN_d2 : bN d2 = 2 := by rw [show d2 = numB 2 from numB_two'.symm, bN_num]
theorem bN_d5 : bN d5 = 5 := by rw [show d5 = numB 5 by unfold numB; rw [Go.Lib.decDigits, dif_pos (by omega)]; rfl, bN_num]

theorem ws_121 : wsE [d1, d2, d1] = 0 := by decide +kernel
theorem ws_111 : wsE [d1, d1, d1] = 0 := by decide +kernel
theorem ws_050 : wsE [d0, d5, d0] = 0 := by decide +kernel
theorem bn_121 : [d1, d2, d1].map bN = [1, 2, 1] := by simp only [List.map_cons, List.map_nil, bN_d1, bN_d2]
theorem bn_111 : [d1, d1, d1].map bN = [1, 1, 1] := by simp only [List.map_cons, List.map_nil, bN_d1]
theorem bn_050 : [d0, d5, d0].map bN = [0, 5, 0] := by simp only [List.map_cons, List.map_nil, bN_d0, bN_d5]

theorem ev_draw {l : List ByteArray} {ws : List Nat} {b : ByteArray} {r : Bool × Nat × Nat} (h : wsE l = 0) (hb : l.map bN = ws) (hc : chkE b = 0) (hr : pdr (pkF ws) 0 1 b.data.toList = r) : dr3 l b = r ∧ drE l b = 0 := by
  have e : drE l b = 0 := by rw [drE, if_neg (by rw [h]; simp), hc]
  exact ⟨by rw [dr3, if_pos e, hb, hr], e⟩
theorem ev_err {l : List ByteArray} {b : ByteArray} {z : Int} (h : drE l b = z) (hz : z ≠ 0) : dr3 l b = (false, 0, 0) ∧ drE l b = z := ⟨by rw [dr3, if_neg (by rw [h]; exact hz)], h⟩

theorem ev_a : dr3 [d1, d2, d1] ⟨#[48, 48]⟩ = (true, 0, 2) ∧ drE [d1, d2, d1] ⟨#[48, 48]⟩ = 0 := ev_draw ws_121 bn_121 (by decide) (by
  show pdr (pkF [1, 2, 1]) 0 1 [48, 48] = _
  rw [pdr_next (by decide), pdr_next (by decide), pdr_done (by decide)]; decide)
theorem ev_b : dr3 [d1, d2, d1] ⟨#[49]⟩ = (false, 0, 1) ∧ drE [d1, d2, d1] ⟨#[49]⟩ = 0 := ev_draw ws_121 bn_121 (by decide) (by
  show pdr (pkF [1, 2, 1]) 0 1 [49] = _
  rw [pdr_next (by decide), pdr_late (by decide)])
theorem ev_c : dr3 [d1, d1, d1] ⟨#[48, 49, 48]⟩ = (false, 0, 3) ∧ drE [d1, d1, d1] ⟨#[48, 49, 48]⟩ = 0 := ev_draw ws_111 bn_111 (by decide) (by
  show pdr (pkF [1, 1, 1]) 0 1 [48, 49, 48] = _
  rw [pdr_next (by decide), pdr_next (by decide), pdr_next (by decide), pdr_late (by decide)])
theorem ev_d : dr3 [d0, d5, d0] ⟨#[]⟩ = (true, 1, 0) ∧ drE [d0, d5, d0] ⟨#[]⟩ = 0 := ev_draw ws_050 bn_050 (by decide) (by
  show pdr (pkF [0, 5, 0]) 0 1 [] = _
  rw [pdr_done (by decide)]; decide)
theorem ev_e : dr3 [d0, d0] ⟨#[49]⟩ = (false, 0, 0) ∧ drE [d0, d0] ⟨#[49]⟩ = 6 := ev_err (by decide +kernel) (by decide)
theorem ev_f : dr3 [] ⟨#[49]⟩ = (false, 0, 0) ∧ drE [] ⟨#[49]⟩ = 2 := ev_err (by decide +kernel) (by decide)
theorem ev_g : dr3 [d1, ⟨#[48, 55]⟩] ⟨#[49]⟩ = (false, 0, 0) ∧ drE [d1, ⟨#[48, 55]⟩] ⟨#[49]⟩ = 3 := ev_err (by decide +kernel) (by decide)
theorem ev_q : dr3 [d1, d1, d1] ⟨#[48, 49, 120]⟩ = (false, 0, 0) ∧ drE [d1, d1, d1] ⟨#[48, 49, 120]⟩ = 3 := ev_err (by decide +kernel) (by decide)
theorem ev_h : bw3 0 ⟨#[49]⟩ = (false, 0, 0) ∧ bwE 0 ⟨#[49]⟩ = 2 := by decide +kernel
theorem ev_i : bw3 1000001 ⟨#[49]⟩ = (false, 0, 0) ∧ bwE 1000001 ⟨#[49]⟩ = 2 := by decide +kernel
theorem ev_j : bw3 1 ⟨#[]⟩ = (true, 0, 0) ∧ bwE 1 ⟨#[]⟩ = 0 := by
  have hE : bwE 1 ⟨#[]⟩ = 0 := by decide
  refine ⟨?_, hE⟩
  unfold bw3
  rw [if_pos hE]
  show pdr (bwF 1) 0 1 [] = _
  rw [pdr_done (by decide)]
  decide

/-- Small fractions' texts. -/
theorem tx_frac {a b : Nat} {t : ByteArray} (hb : b ≠ 0) (hb1 : (mkRat (a : Int) b).den ≠ 1) (ha : a < 10) (hbb : b < 10) (h : t.data.toList = [UInt8.ofNat (48 + (mkRat (a : Int) b).num.natAbs), 47, UInt8.ofNat (48 + (mkRat (a : Int) b).den)]) (h1 : (mkRat (a : Int) b).num.natAbs < 10) (h2 : (mkRat (a : Int) b).den < 10) (h3 : ¬ (mkRat (a : Int) b).num < 0) : shB a b = t := by
  rw [shB_tx hb (by rw [Go.Lib.nDigits_small ha]; omega) (by rw [Go.Lib.nDigits_small hbb]; omega)]
  apply ba_ext
  rw [txQ, txB_list, h, decDigits_small h1, decDigits_small h2, decide_eq_false h3, if_neg hb1]
  rfl
theorem tx_14 : shB 1 4 = ⟨#[49, 47, 52]⟩ := tx_frac (by decide) (by decide +kernel) (by decide) (by decide) (by decide +kernel) (by decide +kernel) (by decide +kernel) (by decide +kernel)
theorem tx_24 : shB 2 4 = ⟨#[49, 47, 50]⟩ := tx_frac (by decide) (by decide +kernel) (by decide) (by decide) (by decide +kernel) (by decide +kernel) (by decide +kernel) (by decide +kernel)

theorem ev_k : lateR [d1, d1, d1] 2 = ⟨#[49, 47, 50]⟩ ∧ lawE [d1, d1, d1] 2 = 0 := by
  have e : lawE [d1, d1, d1] 2 = 0 := by rw [lawE, if_neg (by rw [ws_111]; simp), if_neg (by omega)]
  refine ⟨?_, e⟩
  rw [lateR, if_pos e, bn_111]
  show shB (2 ^ 2 - lwS [1, 1, 1] (2 ^ 2) 3) (2 ^ 2) = _
  rw [show 2 ^ 2 - lwS [1, 1, 1] (2 ^ 2) 3 = 2 by decide]
  exact tx_24
theorem sortM_id {L : List (ByteArray × ByteArray)} (h : L.Pairwise (fun p q => leB (keyL p) (keyL q) = true)) : sortM L = L := List.mergeSort_of_pairwise h
theorem ev_l : lawR [d1, d1, d1] 2 = [(d0, ⟨#[49, 47, 52]⟩), (d2, ⟨#[49, 47, 52]⟩), (lateB, ⟨#[49, 47, 50]⟩)] := by
  rw [lawR, if_pos ev_k.2, bn_111]
  show sortM (lawP [1, 1, 1] 4 3) = _
  have e : lawP [1, 1, 1] 4 3 = [(d0, ⟨#[49, 47, 52]⟩), (d2, ⟨#[49, 47, 52]⟩), (lateB, ⟨#[49, 47, 50]⟩)] := by
    rw [lawP, if_neg (by decide), lawL, if_pos (by decide), lawL, if_neg (by decide), lawL, if_pos (by decide), lawL]
    rw [show 4 - lwS [1, 1, 1] 4 3 = 2 by decide, show cnt [1, 1, 1] 4 0 = 1 by decide, show cnt [1, 1, 1] 4 2 = 1 by decide, tx_14, show shB 2 4 = ⟨#[49, 47, 50]⟩ from tx_24, numB_zero, numB_two']
    rfl
  rw [e]
  exact sortM_id (by decide +kernel)
theorem ev_m : exR [d1, d2, d1] = [(d0, ⟨#[49, 47, 52]⟩), (d1, ⟨#[49, 47, 50]⟩), (d2, ⟨#[49, 47, 52]⟩)] := by
  rw [exR, if_pos ws_121, bn_121]
  show sortM (exL [1, 2, 1] 4 3) = _
  have e : exL [1, 2, 1] 4 3 = [(d0, ⟨#[49, 47, 52]⟩), (d1, ⟨#[49, 47, 50]⟩), (d2, ⟨#[49, 47, 52]⟩)] := by
    rw [exL, if_pos (by decide), exL, if_pos (by decide), exL, if_pos (by decide), exL]
    rw [show ([1, 2, 1] : List Nat).getD 0 0 = 1 from rfl, show ([1, 2, 1] : List Nat).getD 1 0 = 2 from rfl, show ([1, 2, 1] : List Nat).getD 2 0 = 1 from rfl, tx_14, tx_24, numB_zero, numB_one, numB_two']
    rfl
  rw [e]
  exact sortM_id (by decide +kernel)
theorem ev_n {l : List ByteArray} (h : l.length = 65) : lawE l 2 = 2 ∧ lawR l 2 = [] := by
  have e : wsE l = 2 := by rw [wsE, if_pos (by omega)]
  have e2 : lawE l 2 = 2 := by rw [lawE, if_pos (by rw [e]; simp), e]
  exact ⟨e2, by rw [lawR, if_neg (by rw [e2]; simp)]⟩
/-- The text 10..0. -/
def bigB : ByteArray := (⟨#[49]⟩ : ByteArray) ++ ⟨(repL [48] 3800).toArray⟩
theorem repL_dig : ∀ n, ∀ b ∈ repL [48] n, b = 48
  | 0 => by simp [repL]
  | n + 1 => by
    intro b hb
    rw [repL] at hb
    rcases List.mem_append.1 hb with hb | hb
    · exact repL_dig n b hb
    · simpa using hb
theorem bigB_list : bigB.data.toList = 49 :: repL [48] 3800 := by simp [bigB]
theorem bigB_size : bigB.size = 3801 := by
  have h : bigB.data.toList.length = bigB.size := by simp
  rw [← h, bigB_list, List.length_cons, repL_length]
  rfl
theorem ev_o : lateR [bigB] 2 = ⟨#[]⟩ ∧ lawE [bigB] 2 = 5 := by
  have e0 : errN bigB.data.toList = 0 := by
    rw [bigB_list]
    refine errN_ok ⟨by simp, .inr (by simp), fun b hb => ?_⟩ ?_
    · rcases List.mem_cons.1 hb with rfl | hb
      · decide
      · rw [repL_dig _ b hb]; decide
    · rw [List.length_cons, repL_length]
      decide
  have e1 : wtE [bigB] = 5 := by rw [wtE, if_neg (by rw [e0]; simp), if_pos (by rw [bigB_size]; omega)]
  have e : wsE [bigB] = 5 := by rw [wsE, if_neg (by simp), if_pos (by rw [e1]; simp), e1]
  have e2 : lawE [bigB] 2 = 5 := by rw [lawE, if_pos (by rw [e]; simp), e]
  exact ⟨by rw [lateR, if_neg (by rw [e2]; simp)], e2⟩
theorem ev_p : lateR [d1, d1, d1] 257 = ⟨#[]⟩ ∧ lawE [d1, d1, d1] 257 = 2 := by
  have e2 : lawE [d1, d1, d1] 257 = 2 := by rw [lawE, if_neg (by rw [ws_111]; simp), if_pos (by omega)]
  exact ⟨by rw [lateR, if_neg (by rw [e2]; simp)], e2⟩
end Go.Proofs.YtjgcjjbnnlnilaaGreatDoor

/- Walks: law05.PickNames (the lines are written by gen_pm2.py). -/
namespace Go.Proofs.YtjgcjjbnnlnilaaGreatDoor
open Go.RowKit Go.Shelf
open Go.Lib (decDigits nDigits)
set_option linter.unusedVariables false
set_option linter.unusedSimpArgs false

theorem row_lit (w : World) (L : List ByteArray) (n : Nat) (hn : L.length = n) (hL : n ≤ 1000) : Row (w.alloc (.cells (strs L).toArray 23)) (.slice (some ⟨w.heap.size, 0, none⟩) n n) (strs L) :=
  Row.of_blk (Blk.new w _ _) (by rw [strs_length]; exact hn) (by unfold maxLen; omega) (fun i x h => by rw [List.getElem?_toArray]; exact h) (Nat.le_refl _) (by unfold maxLen; omega)
theorem row_made (w : World) (n : Nat) (hL : n ≤ 1000) : Row (w.alloc (.cells (madeCells #[.string ⟨#[]⟩] n) 23)) (.slice (some ⟨w.heap.size, 0, none⟩) n n) (strs (List.replicate n ⟨#[]⟩)) := by
  refine Row.of_blk (Blk.new w _ _) (by simp) (by unfold maxLen; omega) (fun i x h => ?_) (Nat.le_refl _) (by unfold maxLen; omega)
  have hi := (List.getElem?_eq_some_iff.1 h).1
  simp at hi
  rw [← h]
  unfold madeCells strs
  simp [hi, Nat.mod_one]
theorem mrow_lit (w : World) (L : List (ByteArray × ByteArray)) (n : Nat) (hn : L.length = n) (hL : n ≤ 1000) : MRow (w.alloc (.cells (massC L).toArray 43)) (.slice (some ⟨w.heap.size, 0, none⟩) n n) L := by
  subst hn
  refine ⟨some ⟨w.heap.size, 0, none⟩, L.length, rfl, Nat.le_refl _, by omega, fun i x h => ⟨w.heap.size, 0, rfl, by simp, ?_, ?_⟩⟩
  · rw [Nat.zero_add, (Blk.new w _ _).cell, List.getElem?_toArray]; exact (massC_get h).1
  · rw [Nat.zero_add, (Blk.new w _ _).cell, List.getElem?_toArray]; exact (massC_get h).2

set_option maxRecDepth 100000 in
set_option maxHeartbeats 8000000 in
theorem w_PickNames (w : World) (hL : Lay w) :
    Calls Tryz.prog 6 #[] w fun e w' => e = .returned (.bool true) ∧ Below w.heap.size w w' := by
  have HLV := hid (w_lives w hL)
  have HL := hid hL
  have Pa := fun V v hV hLV => hid (p_Draw V v [⟨#[49]⟩, ⟨#[50]⟩, ⟨#[49]⟩] ⟨#[48, 48]⟩ hV (by intro x hx; simp at hx <;> (try rcases hx with rfl | rfl | rfl) <;> (try rcases hx with rfl | rfl) <;> (try subst hx) <;> decide) (by decide) hLV)
  rw [show dr3 [⟨#[49]⟩, ⟨#[50]⟩, ⟨#[49]⟩] ⟨#[48, 48]⟩ = (true, 0, 2) from ev_a.1, show drE [⟨#[49]⟩, ⟨#[50]⟩, ⟨#[49]⟩] ⟨#[48, 48]⟩ = 0 from ev_a.2] at Pa
  have Pb := fun V v hV hLV => hid (p_Draw V v [⟨#[49]⟩, ⟨#[50]⟩, ⟨#[49]⟩] ⟨#[49]⟩ hV (by intro x hx; simp at hx <;> (try rcases hx with rfl | rfl | rfl) <;> (try rcases hx with rfl | rfl) <;> (try subst hx) <;> decide) (by decide) hLV)
  rw [show dr3 [⟨#[49]⟩, ⟨#[50]⟩, ⟨#[49]⟩] ⟨#[49]⟩ = (false, 0, 1) from ev_b.1, show drE [⟨#[49]⟩, ⟨#[50]⟩, ⟨#[49]⟩] ⟨#[49]⟩ = 0 from ev_b.2] at Pb
  have Pc := fun V v hV hLV => hid (p_Draw V v [⟨#[49]⟩, ⟨#[49]⟩, ⟨#[49]⟩] ⟨#[48, 49, 48]⟩ hV (by intro x hx; simp at hx <;> (try rcases hx with rfl | rfl | rfl) <;> (try rcases hx with rfl | rfl) <;> (try subst hx) <;> decide) (by decide) hLV)
  rw [show dr3 [⟨#[49]⟩, ⟨#[49]⟩, ⟨#[49]⟩] ⟨#[48, 49, 48]⟩ = (false, 0, 3) from ev_c.1, show drE [⟨#[49]⟩, ⟨#[49]⟩, ⟨#[49]⟩] ⟨#[48, 49, 48]⟩ = 0 from ev_c.2] at Pc
  have Pd := fun V v hV hLV => hid (p_Draw V v [⟨#[48]⟩, ⟨#[53]⟩, ⟨#[48]⟩] ⟨#[]⟩ hV (by intro x hx; simp at hx <;> (try rcases hx with rfl | rfl | rfl) <;> (try rcases hx with rfl | rfl) <;> (try subst hx) <;> decide) (by decide) hLV)
  rw [show dr3 [⟨#[48]⟩, ⟨#[53]⟩, ⟨#[48]⟩] ⟨#[]⟩ = (true, 1, 0) from ev_d.1, show drE [⟨#[48]⟩, ⟨#[53]⟩, ⟨#[48]⟩] ⟨#[]⟩ = 0 from ev_d.2] at Pd
  have Pe := fun V v hV hLV => hid (p_Draw V v [⟨#[48]⟩, ⟨#[48]⟩] ⟨#[49]⟩ hV (by intro x hx; simp at hx <;> (try rcases hx with rfl | rfl | rfl) <;> (try rcases hx with rfl | rfl) <;> (try subst hx) <;> decide) (by decide) hLV)
  rw [show dr3 [⟨#[48]⟩, ⟨#[48]⟩] ⟨#[49]⟩ = (false, 0, 0) from ev_e.1, show drE [⟨#[48]⟩, ⟨#[48]⟩] ⟨#[49]⟩ = 6 from ev_e.2] at Pe
  have Pf := fun V v hV hLV => hid (p_Draw V v [] ⟨#[49]⟩ hV (by intro x hx; simp at hx <;> (try rcases hx with rfl | rfl | rfl) <;> (try rcases hx with rfl | rfl) <;> (try subst hx) <;> decide) (by decide) hLV)
  rw [show dr3 [] ⟨#[49]⟩ = (false, 0, 0) from ev_f.1, show drE [] ⟨#[49]⟩ = 2 from ev_f.2] at Pf
  have Pg := fun V v hV hLV => hid (p_Draw V v [⟨#[49]⟩, ⟨#[48, 55]⟩] ⟨#[49]⟩ hV (by intro x hx; simp at hx <;> (try rcases hx with rfl | rfl | rfl) <;> (try rcases hx with rfl | rfl) <;> (try subst hx) <;> decide) (by decide) hLV)
  rw [show dr3 [⟨#[49]⟩, ⟨#[48, 55]⟩] ⟨#[49]⟩ = (false, 0, 0) from ev_g.1, show drE [⟨#[49]⟩, ⟨#[48, 55]⟩] ⟨#[49]⟩ = 3 from ev_g.2] at Pg
  have Pq := fun V v hV hLV => hid (p_Draw V v [⟨#[49]⟩, ⟨#[49]⟩, ⟨#[49]⟩] ⟨#[48, 49, 120]⟩ hV (by intro x hx; simp at hx <;> (try rcases hx with rfl | rfl | rfl) <;> (try rcases hx with rfl | rfl) <;> (try subst hx) <;> decide) (by decide) hLV)
  rw [show dr3 [⟨#[49]⟩, ⟨#[49]⟩, ⟨#[49]⟩] ⟨#[48, 49, 120]⟩ = (false, 0, 0) from ev_q.1, show drE [⟨#[49]⟩, ⟨#[49]⟩, ⟨#[49]⟩] ⟨#[48, 49, 120]⟩ = 3 from ev_q.2] at Pq
  have Ph := fun V hLV => hid (p_Below V 0 ⟨#[49]⟩ (by decide) hLV)
  rw [ev_h.1, ev_h.2] at Ph
  have Pi := fun V hLV => hid (p_Below V 1000001 ⟨#[49]⟩ (by decide) hLV)
  rw [ev_i.1, ev_i.2] at Pi
  have Pj := fun V hLV => hid (p_Below V 1 ⟨#[]⟩ (by decide) hLV)
  rw [ev_j.1, ev_j.2] at Pj
  have Pk := fun V v hV hLV => hid (p_Late V v [⟨#[49]⟩, ⟨#[49]⟩, ⟨#[49]⟩] 2 hV (by intro x hx; simp at hx; subst hx; decide) hLV)
  rw [show lateR [⟨#[49]⟩, ⟨#[49]⟩, ⟨#[49]⟩] 2 = ⟨#[49, 47, 50]⟩ from ev_k.1, show lawE [⟨#[49]⟩, ⟨#[49]⟩, ⟨#[49]⟩] 2 = 0 from ev_k.2] at Pk
  have Pl := fun V v hV hLV => hid (p_Law V v [⟨#[49]⟩, ⟨#[49]⟩, ⟨#[49]⟩] 2 hV (by intro x hx; simp at hx; subst hx; decide) hLV)
  rw [show lawR [⟨#[49]⟩, ⟨#[49]⟩, ⟨#[49]⟩] 2 = [(⟨#[48]⟩, ⟨#[49, 47, 52]⟩), (⟨#[50]⟩, ⟨#[49, 47, 52]⟩), (⟨#[108, 97, 116, 101]⟩, ⟨#[49, 47, 50]⟩)] from ev_l, show lawE [⟨#[49]⟩, ⟨#[49]⟩, ⟨#[49]⟩] 2 = 0 from ev_k.2] at Pl
  have Pm := fun V v hV hLV => hid (p_Exact V v [⟨#[49]⟩, ⟨#[50]⟩, ⟨#[49]⟩] hV (by intro x hx; simp at hx; rcases hx with rfl | rfl | rfl <;> decide) hLV)
  rw [show exR [⟨#[49]⟩, ⟨#[50]⟩, ⟨#[49]⟩] = [(⟨#[48]⟩, ⟨#[49, 47, 52]⟩), (⟨#[49]⟩, ⟨#[49, 47, 50]⟩), (⟨#[50]⟩, ⟨#[49, 47, 52]⟩)] from ev_m, show wsE [⟨#[49]⟩, ⟨#[50]⟩, ⟨#[49]⟩] = 0 from ws_121] at Pm
  have Pn := fun V v hV hLV => hid (p_Law V v (List.replicate 65 ⟨#[]⟩) 2 hV (by intro x hx; rw [List.eq_of_mem_replicate hx]; decide) hLV)
  rw [(ev_n (l := List.replicate 65 ⟨#[]⟩) (List.length_replicate ..)).1, (ev_n (l := List.replicate 65 ⟨#[]⟩) (List.length_replicate ..)).2] at Pn
  have Po := fun V v hV hLV => hid (p_Late V v [bigB] 2 hV (by intro x hx; simp at hx; subst hx; rw [bigB_size]; omega) hLV)
  rw [ev_o.1, ev_o.2] at Po
  have Pp := fun V v hV hLV => hid (p_Late V v [⟨#[49]⟩, ⟨#[49]⟩, ⟨#[49]⟩] 257 hV (by intro x hx; simp at hx; subst hx; decide) hLV)
  rw [show lateR [⟨#[49]⟩, ⟨#[49]⟩, ⟨#[49]⟩] 257 = ⟨#[]⟩ from ev_p.1, show lawE [⟨#[49]⟩, ⟨#[49]⟩, ⟨#[49]⟩] 257 = 2 from ev_p.2] at Pp
  have PT := fun V => hid (k_Times V ⟨#[48]⟩ 3800 (by decide) (by decide) (by decide))
  obtain ⟨X, hX⟩ : ∃ X : ByteArray, (⟨(repL (⟨#[48]⟩ : ByteArray).data.toList 3800).toArray⟩ : ByteArray) = X := ⟨_, rfl⟩
  rw [hX] at PT
  have hbig : bigB = (⟨#[49]⟩ : ByteArray) ++ X := by rw [← hX]; rfl
  have hxs : X.size ≤ 3800 := by
    have h := bigB_size
    rw [hbig, ByteArray.size_append] at h
    have : (⟨#[49]⟩ : ByteArray).size = 1 := rfl
    omega
  rw [hbig] at Po
  have hmk : ∀ W, (Instr.makeSlice 22 (.int .i64 65) (.int .i64 65)).run Tryz.prog W = .ok (.slice (some ⟨W.heap.size, 0, none⟩) 65 65) (W.alloc (.cells (madeCells #[.string ⟨#[]⟩] 65) 23)) := fun W => make_nums 65 (by omega) W
  simp only [dw3] at Pa Pb Pc Pd Pe Pf Pg Pq Ph Pi Pj
  clear hL hX hbig
  go_enter Tryz.func6, Tryz.ntmps6
  go_wp2_with fail
  refine HLV.out.mono ?_; rintro e w0 ⟨rfl, hb0⟩
  have y0 := hid hb0; clear hb0
  have Rw : Hid (Row (w0.alloc (.cells #[.string ⟨#[49]⟩, .string ⟨#[49]⟩, .string ⟨#[49]⟩] 23)) (.slice (some ⟨w0.heap.size, 0, none⟩) 3 3) (strs [⟨#[49]⟩, ⟨#[49]⟩, ⟨#[49]⟩])) := row_lit w0 [⟨#[49]⟩, ⟨#[49]⟩, ⟨#[49]⟩] 3 rfl (by decide)
  have A0 := hid ((Below.refl w0.heap.size w0).alloc (Nat.le_refl _) (.cells #[.string ⟨#[49]⟩, .string ⟨#[49]⟩, .string ⟨#[49]⟩] 23))
  have z0 := hid (bnext y0.out A0.out)
  have A1 := hid ((Below.refl _ (w0.alloc (.cells #[.string ⟨#[49]⟩, .string ⟨#[49]⟩, .string ⟨#[49]⟩] 23))).alloc (Nat.le_refl _) (.cells #[.string ⟨#[49]⟩, .string ⟨#[50]⟩, .string ⟨#[49]⟩] 23))
  have R1 : Hid (Row ((w0.alloc (.cells #[.string ⟨#[49]⟩, .string ⟨#[49]⟩, .string ⟨#[49]⟩] 23)).alloc (.cells #[.string ⟨#[49]⟩, .string ⟨#[50]⟩, .string ⟨#[49]⟩] 23)) (.slice (some ⟨w0.heap.size + 1, 0, none⟩) 3 3) (strs [⟨#[49]⟩, ⟨#[50]⟩, ⟨#[49]⟩])) := by
    rw [show w0.heap.size + 1 = ((w0.alloc (.cells #[.string ⟨#[49]⟩, .string ⟨#[49]⟩, .string ⟨#[49]⟩] 23))).heap.size by simp]
    exact row_lit (w0.alloc (.cells #[.string ⟨#[49]⟩, .string ⟨#[49]⟩, .string ⟨#[49]⟩] 23)) [⟨#[49]⟩, ⟨#[50]⟩, ⟨#[49]⟩] 3 rfl (by decide)
  have x1 := hid (bnext z0.out A1.out)
  go_wp2_with fail
  refine (Pa _ _ R1.out (HL.out.call x1.out)).out.mono ?_; rintro e w1 ⟨rfl, hb1⟩
  have b1 := hid (bnext A1.out hb1)
  clear hb1
  have Xa := hid (Blk.new w1 #[.bool true, .int .i64 0, .int .i64 2] 29)
  have B1 := hid (bnext b1.out ((Below.refl w1.heap.size w1).alloc (Nat.le_refl _) (.cells #[.bool true, .int .i64 0, .int .i64 2] 29)))
  have y1 := hid (bnext z0.out B1.out)
  have A2 := hid ((Below.refl _ (w1.alloc (.cells #[.bool true, .int .i64 0, .int .i64 2] 29))).alloc (Nat.le_refl _) (.cells #[.string ⟨#[49]⟩, .string ⟨#[50]⟩, .string ⟨#[49]⟩] 23))
  have R2 : Hid (Row ((w1.alloc (.cells #[.bool true, .int .i64 0, .int .i64 2] 29)).alloc (.cells #[.string ⟨#[49]⟩, .string ⟨#[50]⟩, .string ⟨#[49]⟩] 23)) (.slice (some ⟨w1.heap.size + 1, 0, none⟩) 3 3) (strs [⟨#[49]⟩, ⟨#[50]⟩, ⟨#[49]⟩])) := by
    rw [show w1.heap.size + 1 = ((w1.alloc (.cells #[.bool true, .int .i64 0, .int .i64 2] 29))).heap.size by simp]
    exact row_lit (w1.alloc (.cells #[.bool true, .int .i64 0, .int .i64 2] 29)) [⟨#[49]⟩, ⟨#[50]⟩, ⟨#[49]⟩] 3 rfl (by decide)
  have x2 := hid (bnext y1.out A2.out)
  go_wp2_with fail
  refine (Pb _ _ R2.out (HL.out.call x2.out)).out.mono ?_; rintro e w2 ⟨rfl, hb2⟩
  have b2 := hid (bnext A2.out hb2)
  clear hb2
  have Xb := hid (Blk.new w2 #[.bool false, .int .i64 0, .int .i64 1] 29)
  have B2 := hid (bnext b2.out ((Below.refl w2.heap.size w2).alloc (Nat.le_refl _) (.cells #[.bool false, .int .i64 0, .int .i64 1] 29)))
  have y2 := hid (bnext y1.out B2.out)
  go_wp2_with fail
  refine (Pc _ _ ((Rw.out.call B1.out).call B2.out) (HL.out.call y2.out)).out.mono ?_; rintro e w3 ⟨rfl, hb3⟩
  have b3 := hid hb3
  clear hb3
  have Xc := hid (Blk.new w3 #[.bool false, .int .i64 0, .int .i64 3] 29)
  have B3 := hid (bnext b3.out ((Below.refl w3.heap.size w3).alloc (Nat.le_refl _) (.cells #[.bool false, .int .i64 0, .int .i64 3] 29)))
  have y3 := hid (bnext y2.out B3.out)
  have A4 := hid ((Below.refl _ (w3.alloc (.cells #[.bool false, .int .i64 0, .int .i64 3] 29))).alloc (Nat.le_refl _) (.cells #[.string ⟨#[48]⟩, .string ⟨#[53]⟩, .string ⟨#[48]⟩] 23))
  have R4 : Hid (Row ((w3.alloc (.cells #[.bool false, .int .i64 0, .int .i64 3] 29)).alloc (.cells #[.string ⟨#[48]⟩, .string ⟨#[53]⟩, .string ⟨#[48]⟩] 23)) (.slice (some ⟨w3.heap.size + 1, 0, none⟩) 3 3) (strs [⟨#[48]⟩, ⟨#[53]⟩, ⟨#[48]⟩])) := by
    rw [show w3.heap.size + 1 = ((w3.alloc (.cells #[.bool false, .int .i64 0, .int .i64 3] 29))).heap.size by simp]
    exact row_lit (w3.alloc (.cells #[.bool false, .int .i64 0, .int .i64 3] 29)) [⟨#[48]⟩, ⟨#[53]⟩, ⟨#[48]⟩] 3 rfl (by decide)
  have x4 := hid (bnext y3.out A4.out)
  go_wp2_with fail
  refine (Pd _ _ R4.out (HL.out.call x4.out)).out.mono ?_; rintro e w4 ⟨rfl, hb4⟩
  have b4 := hid (bnext A4.out hb4)
  clear hb4
  have Xd := hid (Blk.new w4 #[.bool true, .int .i64 1, .int .i64 0] 29)
  have B4 := hid (bnext b4.out ((Below.refl w4.heap.size w4).alloc (Nat.le_refl _) (.cells #[.bool true, .int .i64 1, .int .i64 0] 29)))
  have y4 := hid (bnext y3.out B4.out)
  have A5 := hid ((Below.refl _ (w4.alloc (.cells #[.bool true, .int .i64 1, .int .i64 0] 29))).alloc (Nat.le_refl _) (.cells #[.string ⟨#[48]⟩, .string ⟨#[48]⟩] 23))
  have R5 : Hid (Row ((w4.alloc (.cells #[.bool true, .int .i64 1, .int .i64 0] 29)).alloc (.cells #[.string ⟨#[48]⟩, .string ⟨#[48]⟩] 23)) (.slice (some ⟨w4.heap.size + 1, 0, none⟩) 2 2) (strs [⟨#[48]⟩, ⟨#[48]⟩])) := by
    rw [show w4.heap.size + 1 = ((w4.alloc (.cells #[.bool true, .int .i64 1, .int .i64 0] 29))).heap.size by simp]
    exact row_lit (w4.alloc (.cells #[.bool true, .int .i64 1, .int .i64 0] 29)) [⟨#[48]⟩, ⟨#[48]⟩] 2 rfl (by decide)
  have x5 := hid (bnext y4.out A5.out)
  go_wp2_with fail
  refine (Pe _ _ R5.out (HL.out.call x5.out)).out.mono ?_; rintro e w5 ⟨rfl, hb5⟩
  have b5 := hid (bnext A5.out hb5)
  clear hb5
  have Xe := hid (Blk.new w5 #[.bool false, .int .i64 0, .int .i64 0] 29)
  have B5 := hid (bnext b5.out ((Below.refl w5.heap.size w5).alloc (Nat.le_refl _) (.cells #[.bool false, .int .i64 0, .int .i64 0] 29)))
  have y5 := hid (bnext y4.out B5.out)
  go_wp2_with fail
  refine (Pf _ _ (Row.nil _) (HL.out.call y5.out)).out.mono ?_; rintro e w6 ⟨rfl, hb6⟩
  have b6 := hid hb6
  clear hb6
  have Xf := hid (Blk.new w6 #[.bool false, .int .i64 0, .int .i64 0] 29)
  have B6 := hid (bnext b6.out ((Below.refl w6.heap.size w6).alloc (Nat.le_refl _) (.cells #[.bool false, .int .i64 0, .int .i64 0] 29)))
  have y6 := hid (bnext y5.out B6.out)
  have A7 := hid ((Below.refl _ (w6.alloc (.cells #[.bool false, .int .i64 0, .int .i64 0] 29))).alloc (Nat.le_refl _) (.cells #[.string ⟨#[49]⟩, .string ⟨#[48, 55]⟩] 23))
  have R7 : Hid (Row ((w6.alloc (.cells #[.bool false, .int .i64 0, .int .i64 0] 29)).alloc (.cells #[.string ⟨#[49]⟩, .string ⟨#[48, 55]⟩] 23)) (.slice (some ⟨w6.heap.size + 1, 0, none⟩) 2 2) (strs [⟨#[49]⟩, ⟨#[48, 55]⟩])) := by
    rw [show w6.heap.size + 1 = ((w6.alloc (.cells #[.bool false, .int .i64 0, .int .i64 0] 29))).heap.size by simp]
    exact row_lit (w6.alloc (.cells #[.bool false, .int .i64 0, .int .i64 0] 29)) [⟨#[49]⟩, ⟨#[48, 55]⟩] 2 rfl (by decide)
  have x7 := hid (bnext y6.out A7.out)
  go_wp2_with fail
  refine (Pg _ _ R7.out (HL.out.call x7.out)).out.mono ?_; rintro e w7 ⟨rfl, hb7⟩
  have b7 := hid (bnext A7.out hb7)
  clear hb7
  have Xg := hid (Blk.new w7 #[.bool false, .int .i64 0, .int .i64 0] 29)
  have B7 := hid (bnext b7.out ((Below.refl w7.heap.size w7).alloc (Nat.le_refl _) (.cells #[.bool false, .int .i64 0, .int .i64 0] 29)))
  have y7 := hid (bnext y6.out B7.out)
  go_wp2_with fail
  refine (Ph _ (HL.out.call y7.out)).out.mono ?_; rintro e w8 ⟨rfl, hb8⟩
  have b8 := hid hb8
  clear hb8
  have Xh := hid (Blk.new w8 #[.bool false, .int .i64 0, .int .i64 0] 29)
  have B8 := hid (bnext b8.out ((Below.refl w8.heap.size w8).alloc (Nat.le_refl _) (.cells #[.bool false, .int .i64 0, .int .i64 0] 29)))
  have y8 := hid (bnext y7.out B8.out)
  go_wp2_with fail
  refine (Pi _ (HL.out.call y8.out)).out.mono ?_; rintro e w9 ⟨rfl, hb9⟩
  have b9 := hid hb9
  clear hb9
  have Xi := hid (Blk.new w9 #[.bool false, .int .i64 0, .int .i64 0] 29)
  have B9 := hid (bnext b9.out ((Below.refl w9.heap.size w9).alloc (Nat.le_refl _) (.cells #[.bool false, .int .i64 0, .int .i64 0] 29)))
  have y9 := hid (bnext y8.out B9.out)
  go_wp2_with fail
  refine (Pj _ (HL.out.call y9.out)).out.mono ?_; rintro e w10 ⟨rfl, hb10⟩
  have b10 := hid hb10
  clear hb10
  have Xj := hid (Blk.new w10 #[.bool true, .int .i64 0, .int .i64 0] 29)
  have B10 := hid (bnext b10.out ((Below.refl w10.heap.size w10).alloc (Nat.le_refl _) (.cells #[.bool true, .int .i64 0, .int .i64 0] 29)))
  have y10 := hid (bnext y9.out B10.out)
  go_wp2_with fail
  refine (Pk _ _ ((((((((((Rw.out.call B1.out).call B2.out).call B3.out).call B4.out).call B5.out).call B6.out).call B7.out).call B8.out).call B9.out).call B10.out) (HL.out.call y10.out)).out.mono ?_; rintro e w11 ⟨rfl, hb11⟩
  have b11 := hid hb11
  clear hb11
  have B11 := hid b11.out
  have y11 := hid (bnext y10.out B11.out)
  go_wp2_with fail
  refine (Pl _ _ (((((((((((Rw.out.call B1.out).call B2.out).call B3.out).call B4.out).call B5.out).call B6.out).call B7.out).call B8.out).call B9.out).call B10.out).call B11.out) (HL.out.call y11.out)).out.mono ?_; rintro e w12 ⟨⟨ul, rfl, hul⟩, hb12⟩
  have b12 := hid hb12
  clear hb12
  have B12 := hid b12.out
  have y12 := hid (bnext y11.out B12.out)
  have Xl := hid hul; obtain ⟨al, cl, rfl, -⟩ := hul.ex; clear hul
  simp only [List.length_cons, List.length_nil] at Xl ⊢
  have A13 := hid ((Below.refl _ w12).alloc (Nat.le_refl _) (.cells #[.string ⟨#[49]⟩, .string ⟨#[50]⟩, .string ⟨#[49]⟩] 23))
  have R13 : Hid (Row (w12.alloc (.cells #[.string ⟨#[49]⟩, .string ⟨#[50]⟩, .string ⟨#[49]⟩] 23)) (.slice (some ⟨w12.heap.size, 0, none⟩) 3 3) (strs [⟨#[49]⟩, ⟨#[50]⟩, ⟨#[49]⟩])) := by
    exact row_lit w12 [⟨#[49]⟩, ⟨#[50]⟩, ⟨#[49]⟩] 3 rfl (by decide)
  have x13 := hid (bnext y12.out A13.out)
  go_wp2_with fail
  refine (Pm _ _ R13.out (HL.out.call x13.out)).out.mono ?_; rintro e w13 ⟨⟨um, rfl, hum⟩, hb13⟩
  have b13 := hid (bnext A13.out hb13)
  clear hb13
  have B13 := hid b13.out
  have y13 := hid (bnext y12.out B13.out)
  have Xm := hid hum; obtain ⟨am, cm, rfl, -⟩ := hum.ex; clear hum
  simp only [List.length_cons, List.length_nil] at Xm ⊢
  have A14 := hid ((Below.refl _ w13).alloc (Nat.le_refl _) (.cells (madeCells #[.string ⟨#[]⟩] 65) 23))
  have R14 : Hid (Row (w13.alloc (.cells (madeCells #[.string ⟨#[]⟩] 65) 23)) (.slice (some ⟨w13.heap.size, 0, none⟩) 65 65) (strs (List.replicate 65 ⟨#[]⟩))) := by
    exact row_made w13 65 (by decide)
  have x14 := hid (bnext y13.out A14.out)
  go_wp2_with fail
  refine (Pn _ _ R14.out (HL.out.call x14.out)).out.mono ?_; rintro e w14 ⟨⟨un, rfl, hun⟩, hb14⟩
  have b14 := hid (bnext A14.out hb14)
  clear hb14
  have B14 := hid b14.out
  have y14 := hid (bnext y13.out B14.out)
  obtain ⟨an, cn, rfl, -⟩ := hun.ex; clear hun
  simp only [List.length_nil]
  go_wp2_with fail
  refine (PT _).out.mono ?_; rintro e w15 ⟨rfl, hb15⟩
  have b15 := hid hb15
  clear hb15
  have B15 := hid b15.out
  have y15 := hid (bnext y14.out B15.out)
  have A16 := hid ((Below.refl _ w15).alloc (Nat.le_refl _) (.cells #[.string ((⟨#[49]⟩ : ByteArray) ++ X)] 23))
  have R16 : Hid (Row (w15.alloc (.cells #[.string ((⟨#[49]⟩ : ByteArray) ++ X)] 23)) (.slice (some ⟨w15.heap.size, 0, none⟩) 1 1) (strs [(⟨#[49]⟩ : ByteArray) ++ X])) := by
    exact row_lit w15 [(⟨#[49]⟩ : ByteArray) ++ X] 1 rfl (by decide)
  have x16 := hid (bnext y15.out A16.out)
  go_wp2_with fail
  refine (Po _ _ R16.out (HL.out.call x16.out)).out.mono ?_; rintro e w16 ⟨rfl, hb16⟩
  have b16 := hid (bnext A16.out hb16)
  clear hb16
  have B16 := hid b16.out
  have y16 := hid (bnext y15.out B16.out)
  go_wp2_with fail
  refine (Pp _ _ ((((((((((((((((Rw.out.call B1.out).call B2.out).call B3.out).call B4.out).call B5.out).call B6.out).call B7.out).call B8.out).call B9.out).call B10.out).call B11.out).call B12.out).call B13.out).call B14.out).call B15.out).call B16.out) (HL.out.call y16.out)).out.mono ?_; rintro e w17 ⟨rfl, hb17⟩
  have b17 := hid hb17
  clear hb17
  have B17 := hid b17.out
  have y17 := hid (bnext y16.out B17.out)
  go_wp2_with fail
  refine (Pq _ _ (((((((((((((((((Rw.out.call B1.out).call B2.out).call B3.out).call B4.out).call B5.out).call B6.out).call B7.out).call B8.out).call B9.out).call B10.out).call B11.out).call B12.out).call B13.out).call B14.out).call B15.out).call B16.out).call B17.out) (HL.out.call y17.out)).out.mono ?_; rintro e w18 ⟨rfl, hb18⟩
  have b18 := hid hb18
  clear hb18
  have Xq := hid (Blk.new w18 #[.bool false, .int .i64 0, .int .i64 0] 29)
  have B18 := hid (bnext b18.out ((Below.refl w18.heap.size w18).alloc (Nat.le_refl _) (.cells #[.bool false, .int .i64 0, .int .i64 0] 29)))
  have y18 := hid (bnext y17.out B18.out)
  have Za := hid (((((((((((((((((Xa.out.call B2.out).call B3.out).call B4.out).call B5.out).call B6.out).call B7.out).call B8.out).call B9.out).call B10.out).call B11.out).call B12.out).call B13.out).call B14.out).call B15.out).call B16.out).call B17.out).call B18.out)
  have ra0 := Za.out.cell 0
  have ra1 := Za.out.cell 1
  have ra2 := Za.out.cell 2
  simp at ra0 ra1 ra2
  have Zb := hid ((((((((((((((((Xb.out.call B3.out).call B4.out).call B5.out).call B6.out).call B7.out).call B8.out).call B9.out).call B10.out).call B11.out).call B12.out).call B13.out).call B14.out).call B15.out).call B16.out).call B17.out).call B18.out)
  have rb0 := Zb.out.cell 0
  have rb1 := Zb.out.cell 1
  have rb2 := Zb.out.cell 2
  simp at rb0 rb1 rb2
  have Zc := hid (((((((((((((((Xc.out.call B4.out).call B5.out).call B6.out).call B7.out).call B8.out).call B9.out).call B10.out).call B11.out).call B12.out).call B13.out).call B14.out).call B15.out).call B16.out).call B17.out).call B18.out)
  have rc0 := Zc.out.cell 0
  have rc1 := Zc.out.cell 1
  have rc2 := Zc.out.cell 2
  simp at rc0 rc1 rc2
  have Zd := hid ((((((((((((((Xd.out.call B5.out).call B6.out).call B7.out).call B8.out).call B9.out).call B10.out).call B11.out).call B12.out).call B13.out).call B14.out).call B15.out).call B16.out).call B17.out).call B18.out)
  have rd0 := Zd.out.cell 0
  have rd1 := Zd.out.cell 1
  have rd2 := Zd.out.cell 2
  simp at rd0 rd1 rd2
  have Zj := hid ((((((((Xj.out.call B11.out).call B12.out).call B13.out).call B14.out).call B15.out).call B16.out).call B17.out).call B18.out)
  have rj0 := Zj.out.cell 0
  have rj1 := Zj.out.cell 1
  have rj2 := Zj.out.cell 2
  simp at rj0 rj1 rj2
  have A19 := hid ((Below.refl _ (w18.alloc (.cells #[.bool false, .int .i64 0, .int .i64 0] 29))).alloc (Nat.le_refl _) (.cells #[.string ⟨#[48]⟩, .string ⟨#[49, 47, 52]⟩, .string ⟨#[50]⟩, .string ⟨#[49, 47, 52]⟩, .string ⟨#[108, 97, 116, 101]⟩, .string ⟨#[49, 47, 50]⟩] 43))
  have M19 : Hid (MRow ((w18.alloc (.cells #[.bool false, .int .i64 0, .int .i64 0] 29)).alloc (.cells #[.string ⟨#[48]⟩, .string ⟨#[49, 47, 52]⟩, .string ⟨#[50]⟩, .string ⟨#[49, 47, 52]⟩, .string ⟨#[108, 97, 116, 101]⟩, .string ⟨#[49, 47, 50]⟩] 43)) (.slice (some ⟨w18.heap.size + 1, 0, none⟩) 3 3) [(⟨#[48]⟩, ⟨#[49, 47, 52]⟩), (⟨#[50]⟩, ⟨#[49, 47, 52]⟩), (⟨#[108, 97, 116, 101]⟩, ⟨#[49, 47, 50]⟩)]) := by
    rw [show w18.heap.size + 1 = ((w18.alloc (.cells #[.bool false, .int .i64 0, .int .i64 0] 29))).heap.size by simp]
    exact mrow_lit (w18.alloc (.cells #[.bool false, .int .i64 0, .int .i64 0] 29)) [(⟨#[48]⟩, ⟨#[49, 47, 52]⟩), (⟨#[50]⟩, ⟨#[49, 47, 52]⟩), (⟨#[108, 97, 116, 101]⟩, ⟨#[49, 47, 50]⟩)] 3 rfl (by decide)
  have S19 := hid (k_SameM ((w18.alloc (.cells #[.bool false, .int .i64 0, .int .i64 0] 29)).alloc (.cells #[.string ⟨#[48]⟩, .string ⟨#[49, 47, 52]⟩, .string ⟨#[50]⟩, .string ⟨#[49, 47, 52]⟩, .string ⟨#[108, 97, 116, 101]⟩, .string ⟨#[49, 47, 50]⟩] 43)) _ _ [(⟨#[48]⟩, ⟨#[49, 47, 52]⟩), (⟨#[50]⟩, ⟨#[49, 47, 52]⟩), (⟨#[108, 97, 116, 101]⟩, ⟨#[49, 47, 50]⟩)] [(⟨#[48]⟩, ⟨#[49, 47, 52]⟩), (⟨#[50]⟩, ⟨#[49, 47, 52]⟩), (⟨#[108, 97, 116, 101]⟩, ⟨#[49, 47, 50]⟩)] (((((((Xl.out.call B13.out).call B14.out).call B15.out).call B16.out).call B17.out).call B18.out).call A19.out) M19.out)
  rw [decide_eq_true rfl] at S19
  go_wp2_with fail
  refine S19.out.mono ?_; rintro e w19 ⟨rfl, hb19⟩
  have B19 := hid (bnext A19.out hb19)
  clear hb19
  have y19 := hid (bnext y18.out B19.out)
  have A20 := hid ((Below.refl _ w19).alloc (Nat.le_refl _) (.cells #[.string ⟨#[48]⟩, .string ⟨#[49, 47, 52]⟩, .string ⟨#[49]⟩, .string ⟨#[49, 47, 50]⟩, .string ⟨#[50]⟩, .string ⟨#[49, 47, 52]⟩] 43))
  have M20 : Hid (MRow (w19.alloc (.cells #[.string ⟨#[48]⟩, .string ⟨#[49, 47, 52]⟩, .string ⟨#[49]⟩, .string ⟨#[49, 47, 50]⟩, .string ⟨#[50]⟩, .string ⟨#[49, 47, 52]⟩] 43)) (.slice (some ⟨w19.heap.size, 0, none⟩) 3 3) [(⟨#[48]⟩, ⟨#[49, 47, 52]⟩), (⟨#[49]⟩, ⟨#[49, 47, 50]⟩), (⟨#[50]⟩, ⟨#[49, 47, 52]⟩)]) := by
    exact mrow_lit w19 [(⟨#[48]⟩, ⟨#[49, 47, 52]⟩), (⟨#[49]⟩, ⟨#[49, 47, 50]⟩), (⟨#[50]⟩, ⟨#[49, 47, 52]⟩)] 3 rfl (by decide)
  have S20 := hid (k_SameM (w19.alloc (.cells #[.string ⟨#[48]⟩, .string ⟨#[49, 47, 52]⟩, .string ⟨#[49]⟩, .string ⟨#[49, 47, 50]⟩, .string ⟨#[50]⟩, .string ⟨#[49, 47, 52]⟩] 43)) _ _ [(⟨#[48]⟩, ⟨#[49, 47, 52]⟩), (⟨#[49]⟩, ⟨#[49, 47, 50]⟩), (⟨#[50]⟩, ⟨#[49, 47, 52]⟩)] [(⟨#[48]⟩, ⟨#[49, 47, 52]⟩), (⟨#[49]⟩, ⟨#[49, 47, 50]⟩), (⟨#[50]⟩, ⟨#[49, 47, 52]⟩)] (((((((Xm.out.call B14.out).call B15.out).call B16.out).call B17.out).call B18.out).call B19.out).call A20.out) M20.out)
  rw [decide_eq_true rfl] at S20
  go_wp2_with fail
  refine S20.out.mono ?_; rintro e w20 ⟨rfl, hb20⟩
  have B20 := hid (bnext A20.out hb20)
  clear hb20
  have y20 := hid (bnext y19.out B20.out)
  go_wp2_with fail
  go_ret
  exact ⟨rfl, y20.out⟩
end Go.Proofs.YtjgcjjbnnlnilaaGreatDoor

/- PickNames: the row and the tied card: for every input the law answers true; conditions: none beyond the row's own. -/
namespace Go.Proofs.YtjgcjjbnnlnilaaGreatDoor
open Go.ChangeShapes Go.WideShapes Go.ChangeAt Go.RowKit
open Go.ChangeMaps (open_string shut_string)
set_option linter.unusedVariables false

set_option maxRecDepth 100000 in
set_option maxHeartbeats 1000000 in
theorem pickNames_lifted (os : Os) (started : os.Started) (H : Type) (enc : TypeId × Value → H) (F : Stop.Interp) :
    ReturnsInHanded {} Tryz.checked os 6 .any ((OpenSpec.ofChange Rows.pickNamesSpec).preRow enc Tryz.prog Tryz.f6 Rows.pickNamesRow.domain false Rows.pickNamesRow.laid)
      (((OpenSpec.ofChange Rows.pickNamesSpec).at F).post enc Tryz.prog Tryz.f6 false true false false) := by
  refine returnsInHanded_of_row (C := Tryz.checked) (s := OpenSpec.ofChange Rows.pickNamesSpec) own started (by kernel_rfl) Tryz.func6
    (ChangeSpec.witness_shaped (enc := enc) (C := Tryz.checked) (os := os) (s := Rows.pickNamesSpec) (conds := Rows.pickNamesRow.domain) (fn := Tryz.f6) (X := fun w _ => laidMetH Tryz.prog Rows.pickNamesRow.laid w) false (World.laidAll Tryz.prog os Rows.pickNamesRow.laid) #[] 8 (World.laidAll_os _ _ _)
      (World.shaped_of_ZipB (by kernel_rfl) (by kernel_rfl)) (by kernel_rfl) (by kernel_rfl) (by kernel_rfl)
      (by rw [MakeChecks.laidMetH_plain _ _ _ (by kernel_rfl)]; exact laidMet_laidAll _ (by kernel_rfl) (by kernel_rfl))) ?_
  intro W base args ds gs before hval0 hW _ _ _ hL hsh _
  have hval : ∀ (j : Nat) t v, Tryz.f6.params[j]? = some t → args[j]? = some v → Value.okWide Tryz.prog W .any base t v := hval0
  have hW' := hW
  obtain ⟨p, q, hA0, hV, rfl, hfz, hnd⟩ := hW
  have hA : DataW.TrodAll enc Tryz.prog W 0 (fun _ => true) true Tryz.f6.params.toList args.toList ds p := hA0
  rw [Tryz.params6] at hA hval
  obtain ⟨hargs, rfl, rfl⟩ := trodAll_nil hA
  obtain rfl : args = #[] := by cases args; simp_all
  obtain ⟨rfl, rfl⟩ := trodVars_none hV
  clear hA0 hval0
  refine (w_PickNames W (lay_of hL hsh)).mono fun e W' ⟨he, bel⟩ => ?_
  subst he
  exact ⟨_, rfl, _, _, _, [], _, [], hW', trodAll_mk1 (shut_bool Tryz.underlying4 _), trodAll_mk0, rfl, bel.frame _, fun h => by cases h⟩

theorem pickNames_holds : Rows.pickNamesRow.holds Tryz.pinned (OpenSpec.ofChange Rows.pickNamesSpec) :=
  OpenClaim.holds_of_cond 6 Tryz.f6 rfl rfl rfl rfl rfl rfl rfl ⟨rfl, rfl, rfl, rfl, rfl⟩ rfl rfl rfl rfl rfl (by kernel_rfl) Tryz.func6 (by kernel_rfl)
    (of_decide_eq_true (by kernel_rfl)) (by unfold Func.isWrapper; first | (rw [if_pos (by decide +kernel)]; kernel_rfl) | (rw [if_neg (by decide +kernel)]; exact ⟨rfl, rfl⟩))
    (fun os started H enc _ F0 => by rw [OpenClaim.pre_eq_preRow]; exact pickNames_lifted os started H enc F0)

theorem pickNames_card : Rows.PickNamesCardSaid :=
  Claim7.holds_tied_plain_at .later [] [.data, .data, .data, .data, .sentinel, .sentinel, .pinned] true Rows.pickNamesCard.stood.harness true
    pickNames_holds (fun _ h => by cases h) (by kernel_rfl) (fun _ h => by cases h) pickNames_row_tie rfl ⟨rfl, rfl⟩ (by kernel_rfl) rfl
    (fun f fn hf hfn => by
      obtain rfl : f = 6 := Option.some.inj ((show Tryz.prog.funcNamed "privhouse/privhouselaw05.PickNames" = some 6 by kernel_rfl).symm.trans hf) |>.symm
      obtain rfl : fn = Tryz.f6 := (Option.some.inj (Tryz.func6.symm.trans hfn)).symm
      exact ⟨by kernel_rfl, fun j t ht => by
        rw [Tryz.params6] at ht
        simp at ht⟩)
    (by kernel_rfl)
#print axioms pickNames_card
end Go.Proofs.YtjgcjjbnnlnilaaGreatDoor
