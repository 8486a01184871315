/- Texts that the proof rests on, merged: E4, Sh3, Rep, Sd, Tt, Tb, En, NpG, Gl1. -/
import Derived.Test.YtccalhlhdiapiaaGreatDoorKo6
import Derived.Shelf.Bits.Mul64
import Derived.Ground.NamesProg
import Derived.Test.YtccalhlhdiapiaaGreatDoorProg
import Derived.Laws.CopyOwn
import Derived.Deep.DeepCutAuto
import Derived.RegionTactic
import Derived.Deep.LoopGhost
import Derived.Maps.AppendAt
import Derived.RangeFuncBox
namespace Go.Proofs.YtccalhlhdiapiaaGreatDoor
open Go.RowKit Go.Shelf
open Go.Lib (decDigits nDigits)
set_option linter.unusedVariables false
set_option linter.unusedSimpArgs false
theorem gPE_ok {p : ByteArray} (h : gPE p = 0) : cPE p = 0 ∧ bN (cW p) < bN (qD p) := by
  unfold gPE at h
  split at h
  · rename_i he
    exact absurd h he
  · rename_i he
    have he' : qE p = 0 := Decidable.not_not.1 he
    split at h
    · cases h
    · rename_i h2
      split at h
      · cases h
      · rename_i h3
        obtain ⟨a, b, c, d, e1, e2⟩ := parts_ok he' (fun h => h2 (.inl h)) h3
        have h4 : ¬ 0 ≤ cmpN (cW p).data.toList (qD p).data.toList := fun h => h2 (.inr h)
        refine ⟨?_, ?_⟩
        · rw [cPE, if_neg he, if_neg (fun h => ?_), if_neg h3]
          rcases h with h | h
          · exact h2 (.inl h)
          · exact h4 (by omega)
        · rw [cmpN, if_pos ⟨e1, e2⟩, ordN] at h4
          show dv _ < dv _
          split at h4
          · assumption
          · split at h4 <;> simp at h4
theorem gE_ok {a b : ByteArray} (h : gE a b = 0) : gPE a = 0 ∧ chkE b = 0 := by
  unfold gE at h
  split at h
  · rename_i h1; exact absurd h h1
  · rename_i h1; exact ⟨Decidable.not_not.1 h1, h⟩
set_option maxRecDepth 100000 in
set_option maxHeartbeats 1000000 in
theorem g_draw_none (w : World) (a b : ByteArray) (many : Nat) (h1 : 1 ≤ many) (h2 : many ≤ 1000) (ha : a.size ≤ 100000) (hb : b.size ≤ 100000) (he : gE a b = 0) (hL : Lay w)
    (hr : sr (bN (cW a)) (bN (qD a)) b.data.toList many 0 [] 0 = none) :
    Calls Tryz.prog 53 #[.string a, .string b, .int .i64 (many : Nat)] w fun e w' => e = .returned (.tuple #[.agg #[.bool false, .int .i64 0, .int .i64 (b.size : Nat)], .int .i64 0]) ∧ Below w.heap.size w w' := by
  have HC := fun V hV => hid (g_check V a b ha hb hV)
  have HS := fun V hV => hid (g_series V a b many h1 h2 ha (gE_ok he).2 (gPE_ok (gE_ok he).1).1 (gPE_ok (gE_ok he).1).2 hV)
  rw [he] at HC
  rw [hr] at HS
  simp only [SerOut] at HS
  have HL := hid hL
  have b0 := hid ((Below.refl w.heap.size w).alloc (Nat.le_refl _) (.cells #[.bool false, .int .i64 0, .int .i64 0] 46))
  have x0 := hid (Blk.new w #[.bool false, .int .i64 0, .int .i64 0] 46)
  clear h1 h2 ha hb he hL hr
  go_enter Tryz.func53, Tryz.ntmps53
  go_wp2_with fail
  refine (HC _ (HL.out.call b0.out)).out.mono ?_; rintro e w1 ⟨rfl, hb1⟩
  have b1 := hid (bnext b0.out hb1); have x1 := hid (x0.out.call hb1)
  clear hb1
  go_wp2_with fail
  refine (HS _ (HL.out.call b1.out)).out.mono ?_; rintro e w2 ⟨rfl, hb2⟩
  have b2 := hid (bnext b1.out hb2); have x2 := hid (x1.out.call hb2)
  have r0 : w2.cell? ⟨w.heap.size, 0, none⟩ = some (.bool false) := x2.out.cell 0
  have r1 : w2.cell? ⟨w.heap.size, 1, none⟩ = some (.int .i64 0) := x2.out.cell 1
  have r2 : w2.cell? ⟨w.heap.size, 2, none⟩ = some (.int .i64 0) := x2.out.cell 2
  have f0 := x2.out.free 0
  have f1 := x2.out.free 1
  have f2 := x2.out.free 2
  clear hb2
  go_wp2_with fail
  have s3 := ((x2.out.set 0 (.bool false)).set 1 (.int .i64 0)).set 2 (.int .i64 (b.size : Nat))
  have k0 := s3.cell 0
  have k1 := s3.cell 1
  have k2 := s3.cell 2
  simp at k0 k1 k2
  refine bodyPost_ret (v := .tuple #[.agg #[.bool false, .int .i64 0, .int .i64 (b.size : Nat)], .int .i64 0]) (by simp [results, Tryz.results53, go_sem, k0, k1, k2]) rfl ⟨rfl, ?_⟩
  exact ((b2.out.setCell (Nat.le_refl _) _).setCell (Nat.le_refl _) _).setCell (Nat.le_refl _) _
set_option maxRecDepth 100000 in
set_option maxHeartbeats 1000000 in
theorem g_draw_bad (w : World) (a b : ByteArray) (many : Nat) (ha : a.size ≤ 100000) (hb : b.size ≤ 100000) (he : gE a b ≠ 0) (hL : Lay w) :
    Calls Tryz.prog 53 #[.string a, .string b, .int .i64 (many : Nat)] w fun e w' => e = .returned (.tuple #[.agg #[.bool false, .int .i64 0, .int .i64 0], .int .i64 (gE a b)]) ∧ Below w.heap.size w w' := by
  have HC := fun V hV => hid (g_check V a b ha hb hV)
  obtain ⟨x, hx⟩ : ∃ x, gE a b = x := ⟨_, rfl⟩
  rw [hx] at HC he ⊢
  have q0 : (x == 0) = false := by simpa using he
  have q1 : (x != 0) = true := by simpa using he
  have HL := hid hL
  have b0 := hid ((Below.refl w.heap.size w).alloc (Nat.le_refl _) (.cells #[.bool false, .int .i64 0, .int .i64 0] 46))
  have x0 := hid (Blk.new w #[.bool false, .int .i64 0, .int .i64 0] 46)
  clear ha hb he hL hx
  go_enter Tryz.func53, Tryz.ntmps53
  go_wp2_with fail
  refine (HC _ (HL.out.call b0.out)).out.mono ?_; rintro e w2 ⟨rfl, hb2⟩
  have b2 := hid (bnext b0.out hb2); have x2 := hid (x0.out.call hb2)
  have r0 : w2.cell? ⟨w.heap.size, 0, none⟩ = some (.bool false) := x2.out.cell 0
  have r1 : w2.cell? ⟨w.heap.size, 1, none⟩ = some (.int .i64 0) := x2.out.cell 1
  have r2 : w2.cell? ⟨w.heap.size, 2, none⟩ = some (.int .i64 0) := x2.out.cell 2
  have f0 := x2.out.free 0
  have f1 := x2.out.free 1
  have f2 := x2.out.free 2
  clear hb2
  go_wp2_with fail
  have s3 := ((x2.out.set 0 (.bool false)).set 1 (.int .i64 0)).set 2 (.int .i64 0)
  have k0 := s3.cell 0
  have k1 := s3.cell 1
  have k2 := s3.cell 2
  simp at k0 k1 k2
  refine bodyPost_ret (v := .tuple #[.agg #[.bool false, .int .i64 0, .int .i64 0], .int .i64 x]) (by simp [results, Tryz.results53, go_sem, k0, k1, k2]) rfl ⟨rfl, ?_⟩
  exact ((b2.out.setCell (Nat.le_refl _) _).setCell (Nat.le_refl _) _).setCell (Nat.le_refl _) _
set_option maxRecDepth 100000 in
set_option maxHeartbeats 1000000 in
theorem g_draw_one (w : World) (a b : ByteArray) (x p : Nat) (hx : x ≤ 100000) (hp : p ≤ 100000) (ha : a.size ≤ 100000) (hb : b.size ≤ 100000) (he : gE a b = 0) (hL : Lay w)
    (hr : sr (bN (cW a)) (bN (qD a)) b.data.toList 1 0 [] 0 = some ([x], p)) :
    Calls Tryz.prog 53 #[.string a, .string b, .int .i64 1] w fun e w' => e = .returned (.tuple #[.agg #[.bool true, .int .i64 (x : Nat), .int .i64 (p : Nat)], .int .i64 0]) ∧ Below w.heap.size w w' := by
  have HC := fun V hV => hid (g_check V a b ha hb hV)
  have HS := fun V hV => hid (g_series V a b 1 (by omega) (by omega) ha (gE_ok he).2 (gPE_ok (gE_ok he).1).1 (gPE_ok (gE_ok he).1).2 hV)
  rw [he] at HC
  rw [hr] at HS
  simp only [SerOut] at HS
  have HL := hid hL
  have b0 := hid ((Below.refl w.heap.size w).alloc (Nat.le_refl _) (.cells #[.bool false, .int .i64 0, .int .i64 0] 46))
  have x0 := hid (Blk.new w #[.bool false, .int .i64 0, .int .i64 0] 46)
  clear ha hb he hL hr
  go_enter Tryz.func53, Tryz.ntmps53
  go_wp2_with fail
  refine (HC _ (HL.out.call b0.out)).out.mono ?_; rintro e w1 ⟨rfl, hb1⟩
  have b1 := hid (bnext b0.out hb1); have x1 := hid (x0.out.call hb1)
  clear hb1
  go_wp2_with fail
  refine (HS _ (HL.out.call b1.out)).out.mono ?_; rintro e w2 ⟨⟨v, rfl, hv⟩, hb2⟩
  have b2 := hid (bnext b1.out hb2); have x2 := hid (x1.out.call hb2)
  obtain ⟨a3, c3, rfl, h3, h4, h5⟩ := hv.openI
  obtain ⟨g, o, rfl, -, hc⟩ := h5 0 x rfl
  rw [Nat.add_zero] at hc
  have r0 : w2.cell? ⟨w.heap.size, 0, none⟩ = some (.bool false) := x2.out.cell 0
  have r1 : w2.cell? ⟨w.heap.size, 1, none⟩ = some (.int .i64 0) := x2.out.cell 1
  have r2 : w2.cell? ⟨w.heap.size, 2, none⟩ = some (.int .i64 0) := x2.out.cell 2
  have f0 := x2.out.free 0
  have f1 := x2.out.free 1
  have f2 := x2.out.free 2
  clear hb2 hv h5
  simp only [List.length_singleton] at h3 ⊢
  go_wp2_with fail
  all_goals
    go_loop [12, 41] (fun v i => v = .int .i64 (x : Nat) ∧ i = .int .i64 0) (fun _ _ => 0)
    case atStart => exact ⟨rfl, rfl⟩
    case round =>
      obtain ⟨rfl, rfl⟩ := hrel
      go_wp2_with fail
      have s3 := ((x2.out.set 0 (.bool true)).set 1 (.int .i64 (x : Nat))).set 2 (.int .i64 (p : Nat))
      have k0 := s3.cell 0
      have k1 := s3.cell 1
      have k2 := s3.cell 2
      simp at k0 k1 k2
      refine bodyPost_ret (v := .tuple #[.agg #[.bool true, .int .i64 (x : Nat), .int .i64 (p : Nat)], .int .i64 0]) (by simp [results, Tryz.results53, go_sem, k0, k1, k2]) rfl ⟨rfl, ?_⟩
      exact ((b2.out.setCell (Nat.le_refl _) _).setCell (Nat.le_refl _) _).setCell (Nat.le_refl _) _
set_option maxRecDepth 100000 in
set_option maxHeartbeats 1000000 in
theorem g_draw_two (w : World) (a b : ByteArray) (x y p : Nat) (hx : x ≤ 100000) (hy : y ≤ 100000) (hp : p ≤ 100000) (ha : a.size ≤ 100000) (hb : b.size ≤ 100000) (he : gE a b = 0) (hL : Lay w)
    (hr : sr (bN (cW a)) (bN (qD a)) b.data.toList 2 0 [] 0 = some ([x, y], p)) :
    Calls Tryz.prog 53 #[.string a, .string b, .int .i64 2] w fun e w' => e = .returned (.tuple #[.agg #[.bool true, .int .i64 ((x : Int) - (y : Int)), .int .i64 (p : Nat)], .int .i64 0]) ∧ Below w.heap.size w w' := by
  have HC := fun V hV => hid (g_check V a b ha hb hV)
  have HS := fun V hV => hid (g_series V a b 2 (by omega) (by omega) ha (gE_ok he).2 (gPE_ok (gE_ok he).1).1 (gPE_ok (gE_ok he).1).2 hV)
  rw [he] at HC
  rw [hr] at HS
  simp only [SerOut] at HS
  have HL := hid hL
  have b0 := hid ((Below.refl w.heap.size w).alloc (Nat.le_refl _) (.cells #[.bool false, .int .i64 0, .int .i64 0] 46))
  have x0 := hid (Blk.new w #[.bool false, .int .i64 0, .int .i64 0] 46)
  clear ha hb he hL hr
  go_enter Tryz.func53, Tryz.ntmps53
  go_wp2_with fail
  refine (HC _ (HL.out.call b0.out)).out.mono ?_; rintro e w1 ⟨rfl, hb1⟩
  have b1 := hid (bnext b0.out hb1); have x1 := hid (x0.out.call hb1)
  clear hb1
  go_wp2_with fail
  refine (HS _ (HL.out.call b1.out)).out.mono ?_; rintro e w2 ⟨⟨v, rfl, hv⟩, hb2⟩
  have b2 := hid (bnext b1.out hb2); have x2 := hid (x1.out.call hb2)
  obtain ⟨a3, c3, rfl, h3, h4, h5⟩ := hv.openI
  obtain ⟨g, o, rfl, -, hc⟩ := h5 0 x rfl
  obtain ⟨g', o', hgo, -, hd⟩ := h5 1 y rfl
  simp at hgo
  obtain ⟨rfl, rfl⟩ := hgo
  rw [Nat.add_zero] at hc
  have r0 : w2.cell? ⟨w.heap.size, 0, none⟩ = some (.bool false) := x2.out.cell 0
  have r1 : w2.cell? ⟨w.heap.size, 1, none⟩ = some (.int .i64 0) := x2.out.cell 1
  have r2 : w2.cell? ⟨w.heap.size, 2, none⟩ = some (.int .i64 0) := x2.out.cell 2
  have f0 := x2.out.free 0
  have f1 := x2.out.free 1
  have f2 := x2.out.free 2
  clear hb2 hv h5
  simp only [List.length_cons, List.length_nil, Nat.zero_add, Nat.reduceAdd] at h3 ⊢
  have w1 : IntKind.i64.wrap ((x : Int) - (y : Int)) = (x : Int) - (y : Int) := by rw [IntWalk.i64_in _ ⟨by omega, by omega⟩]
  go_wp2_with fail
  all_goals
    go_loop [12, 41] (fun v i => (v = .int .i64 (x : Nat) ∧ i = .int .i64 0) ∨ (v = .int .i64 ((x : Int) - (y : Int)) ∧ i = .int .i64 1)) (fun _ i => 1 - (intOf i).toNat)
    case atStart => exact .inl ⟨rfl, rfl⟩
    case round =>
      rcases hrel with ⟨rfl, rfl⟩ | ⟨rfl, rfl⟩
      · go_wp2_with fail
        go_round
        case rel => exact .inr ⟨rfl, rfl⟩
        case measure => simp [intOf]
      · go_wp2_with fail
        have s3 := ((x2.out.set 0 (.bool true)).set 1 (.int .i64 ((x : Int) - (y : Int)))).set 2 (.int .i64 (p : Nat))
        have k0 := s3.cell 0
        have k1 := s3.cell 1
        have k2 := s3.cell 2
        simp at k0 k1 k2
        refine bodyPost_ret (v := .tuple #[.agg #[.bool true, .int .i64 ((x : Int) - (y : Int)), .int .i64 (p : Nat)], .int .i64 0]) (by simp [results, Tryz.results53, go_sem, k0, k1, k2]) rfl ⟨rfl, ?_⟩
        exact ((b2.out.setCell (Nat.le_refl _) _).setCell (Nat.le_refl _) _).setCell (Nat.le_refl _) _
end Go.Proofs.YtccalhlhdiapiaaGreatDoor
namespace Go.Proofs
open Go.Shelf
def Tryz.lays212_ren : Go.Shelf.Ren := ⟨fun | 212 => 99 | 263 => 147 | 264 => 148 | n => n, fun | 46 => 114 | 51 => 162 | 146 => 163 | 53 => 147 | 148 => 165 | n => n, fun | n => n⟩
theorem Tryz.lays212 : Go.Proofs.Lays.n212 Tryz.prog Tryz.lays212_ren := {
  mixed := by kernel_rfl
  f212 := Tryz.func99.trans (congrArg some (by kernel_rfl))
  f263 := Tryz.func147.trans (congrArg some (by kernel_rfl))
  f264 := Tryz.func148.trans (congrArg some (by kernel_rfl))
  t46 := Tryz.underlying114
  a46 := Tryz.isAgg114
  z46 := Tryz.sizeOf114
  v46 := Tryz.zeroValue114
  t51 := Tryz.underlying162
  a51 := Tryz.isAgg162
  z51 := Tryz.sizeOf162
  v51 := Tryz.zeroValue162
  t53 := Tryz.underlying147
  a53 := Tryz.isAgg147
  z53 := Tryz.sizeOf147
  v53 := Tryz.zeroValue147
  t146 := Tryz.underlying163
  a146 := Tryz.isAgg163
  z146 := Tryz.sizeOf163
  v146 := Tryz.zeroValue163
  t148 := Tryz.underlying165
  a148 := Tryz.isAgg165
  z148 := Tryz.sizeOf165
  v148 := Tryz.zeroValue165 }
open Go.RowKit Go.Lib in
theorem Tryz.bits_Mul (x y : Nat) (hx : x < 18446744073709551616) (hy : y < 18446744073709551616) (w : World) :
    Calls Tryz.prog 99 #[.int .u64 x, .int .u64 y] w fun e w' => e = .returned (.tuple #[.int .u64 ((x * y / 18446744073709551616 : Nat) : Int), .int .u64 ((x * y % 18446744073709551616 : Nat) : Int)]) ∧ w' = w := Any.bits_Mul Tryz.lays212 x y hx hy w
end Go.Proofs
namespace Go.Proofs.YtccalhlhdiapiaaGreatDoor
open Go.RowKit
set_option linter.unusedVariables false
set_option linter.unusedSimpArgs false
/-- A row of texts. -/
def strsR (l : List ByteArray) : List Value := l.map Value.string
@[simp] theorem strsR_length (l : List ByteArray) : (strsR l).length = l.length := by simp [strsR]
theorem strsR_get {l : List ByteArray} {i : Nat} {s : ByteArray} (h : l[i]? = some s) : (strsR l)[i]? = some (.string s) := by simp [strsR, h]
theorem strsR_one (l : List ByteArray) : ∀ u ∈ strsR l, u.oneCell' = true := by
  intro u hu
  obtain ⟨x, _, rfl⟩ := List.mem_map.1 hu
  rfl
theorem make_strsR (n : Nat) (h : n ≤ 1000000) (W : World) : (Instr.makeSlice 50 (.int .i64 (n : Int)) (.int .i64 (n : Int))).run Tryz.prog W = .ok (.slice (some ⟨W.heap.size, 0, none⟩) n n) (W.alloc (.cells (madeCells #[.string ⟨#[]⟩] n) 22)) :=
  run_make_row' (P := Tryz.prog) 50 22 (.string ⟨#[]⟩) 16 Tryz.underlying50 (by kernel_rfl) rfl .i64 .i64 n (by omega) (by omega) W
theorem made_strsR (n : Nat) : madeCells #[.string ⟨#[]⟩] n = (strsR (List.replicate n ⟨#[]⟩)).toArray := by
  apply Array.ext_getElem?
  intro i
  unfold madeCells strsR
  by_cases hi : i < n <;> simp [hi, Nat.mod_one]
/-- k of n texts are laid. -/
def repS (s : ByteArray) (n k : Nat) : List Value := strsR (List.replicate k s ++ List.replicate (n - k) ⟨#[]⟩)
theorem repS_splice {s : ByteArray} {n k m : Nat} (h : k + m ≤ n) : splice (repS s n k) k (strsR (List.replicate m s)) = repS s n (k + m) := by
  unfold splice repS strsR
  simp only [List.map_append, List.map_replicate, List.length_replicate]
  rw [List.take_append_of_le_length (by simp), List.take_of_length_le (by simp), List.drop_append, List.drop_of_length_le (by simp), List.nil_append, List.length_replicate, List.drop_replicate, ← List.append_assoc, List.replicate_append_replicate]
  rw [show n - k - (k + m - k) = n - (k + m) by omega]
set_option maxRecDepth 100000 in
set_option maxHeartbeats 2000000 in
theorem s_Repeat (w : World) (g0 n : Nat) (s : ByteArray) (h1 : 1 ≤ n) (h2 : n ≤ 100000) (hc : w.cell? ⟨g0, 0, none⟩ = some (.string s)) :
    Calls Tryz.prog 60 #[.slice (some ⟨g0, 0, none⟩) 1 1, .int .i64 n] w fun e w' =>
      e = .returned (.slice (some ⟨w.heap.size, 0, none⟩) n n) ∧ Blk w' w.heap.size (strsR (List.replicate n s)).toArray 22 ∧ Below w.heap.size w w' := by
  have HM := fun W => hid (make_strsR n (by omega) W)
  have HB := fun W => hid (Tryz.bits_Mul 1 n (by omega) (by omega) W)
  have e1 : (((1 * n / 18446744073709551616 : Nat)) : Int) = 0 := by
    rw [Nat.one_mul, Nat.div_eq_of_lt (by omega)]; rfl
  have e2 : (((1 * n % 18446744073709551616 : Nat)) : Int) = (n : Int) := by
    rw [Nat.one_mul, Nat.mod_eq_of_lt (by omega)]
  rw [e1, e2] at HB
  have hn0 : (0 : Int) ≤ (n : Int) := by omega
  have hn1 : (n : Int) ≤ 100000 := by omega
  have q0 : decide ((n : Int) < 0) = false := by simp
  have hsrc : ∀ j v, (strsR [s])[j]? = some v → w.cell? ((⟨g0, 0, none⟩ : Addr).add j) = some v := by
    intro j v hj
    rcases j with _ | j
    · simp [strsR] at hj; rw [← hj]; exact hc
    · simp [strsR] at hj
  have HSRC := hid hsrc; have H1 := hid h1; have H2 := hid h2
  clear e1 e2 hsrc hc h1 h2
  go_enter Tryz.func60, Tryz.ntmps60
  go_wp2_with fail
  refine (HB _).out.mono ?_; rintro e w1 ⟨rfl, rfl⟩
  clear HB
  have HM1 := (HM w1).out
  have hc1 : (w1.alloc (.cells (madeCells #[.string ⟨#[]⟩] n) 22)).heap[w1.heap.size]? = some (.cells (repS s n 0).toArray 22 (0, 0)) := by
    have := Blk.new w1 (madeCells #[.string ⟨#[]⟩] n) 22
    rw [made_strsR] at this ⊢
    simpa [repS, Blk] using this
  have hc2 : (strsR [s]).length = Nat.min 1 n := (Nat.min_eq_left H1.out).symm
  have hc3 : ∀ j v, (strsR [s])[j]? = some v → (w1.alloc (.cells (madeCells #[.string ⟨#[]⟩] n) 22)).cell? ((⟨g0, 0, none⟩ : Addr).add j) = some v := fun j v h =>
    have h2 := HSRC.out j v h
    (((Below.refl w1.heap.size w1).alloc (Nat.le_refl _) _).cell (cell_lt h2)).trans h2
  have hc4 : 0 + (strsR [s]).length ≤ (repS s n 0).length := by simp [strsR, repS]; have := H1.out; omega
  have hc5 := (Below.refl w1.heap.size w1).alloc (Nat.le_refl _) (.cells (madeCells #[.string ⟨#[]⟩] n) 22)
  have C1 := hid hc1; have C2 := hid hc2; have C3 := hid hc3; have C4 := hid hc4; have C5 := hid hc5
  have hsp : splice (repS s n 0) 0 (strsR [s]) = repS s n 1 := by
    have := repS_splice (s := s) (n := n) (k := 0) (m := 1) (by have := H1.out; omega)
    simpa using this
  have HSP := hid hsp
  clear hc1 hc2 hc3 hc4 hc5 HM hsp
  go_wp2_with (refine wpList_copy_splice rfl (.tmp 31) (.tmp 32) 50 50 rfl 22 Tryz.underlying50 (by kernel_rfl) (some ⟨w1.heap.size, 0, none⟩) (some ⟨g0, 0, none⟩) n n 1 1 rfl rfl w1.heap.size 0 (repS s n 0) 22 C1.out (strsR [s]) C2.out (fun _ => ⟨rfl, _, rfl, C3.out⟩) C4.out (strsR_one _) w1.heap.size w1 C5.out (Nat.le_refl _) ?_; intro w2 hg2 hb2)
  rw [HSP.out] at hg2
  have G2 := hid (show Blk w2 w1.heap.size (repS s n 1).toArray 22 from hg2.out); have B2 := hid hb2
  obtain ⟨H, hH⟩ : ∃ H, w1.heap.size = H := ⟨_, rfl⟩
  rw [hH] at G2 B2 ⊢
  clear hg2 hb2 HM1 C1 C2 C3 C4 C5 HSP HSRC
  have HH := hid hH
  clear hH
  go_loopw [8] (fun i wr => ∃ k : Nat, i = .int .i64 (k : Nat) ∧ 1 ≤ k ∧ k ≤ n ∧ Hid (Blk wr H (repS s n k).toArray 22) ∧ Hid (Below H w1 wr)) (fun i wr => n - (intOf i).toNat)
  case atStart => exact ⟨1, rfl, Nat.le_refl _, H1.out, G2.out, B2.out⟩
  case round =>
    obtain ⟨k, rfl, hk1, hk2, hG, hB⟩ := hrel
    by_cases hlt : k < n
    · have f0 : (0 : Int) ≤ (k : Int) := by omega
      have f1 : (k : Int) < (n : Int) := by omega
      have f2 : (k : Int) ≤ (n : Int) := by omega
      have K1 := hid hk1; have K2 := hid hlt
      clear hk1 hk2
      go_wp2_with fail
      refine held_plain [0, 1, 2, 3, 4, 5, 6] 3 (fun _ => True) (by kernel_rfl) (by kernel_rfl) (by kernel_rfl) (by kernel_rfl) trivial ?_
      iterate 7
        refine ⟨_, rfl, ?_⟩
        apply Exists.intro
        refine ⟨.inl ⟨by rfl, ?_⟩, ?_⟩
        · (intro W' hW'; clear hW'; go_simp; try (with_reducible rfl))
        (dsimp only [Act.put]; try simp only [List.setIfInBounds_toArray, List.set_cons_zero, List.set_cons_succ])
      refine held_one (i := 7) (by kernel_rfl) (by rfl) (by rfl) ?_
      obtain ⟨m, hm⟩ : ∃ m, Nat.min k (n - k) = m := ⟨_, rfl⟩
      have hm1 : m ≤ k := hm ▸ Nat.min_le_left _ _
      have hm2 : m ≤ n - k := hm ▸ Nat.min_le_right _ _
      have hm3 : 1 ≤ m := by rw [← hm]; exact Nat.le_min.2 ⟨K1.out, by omega⟩
      have hsrc : ∀ j v, (strsR (List.replicate m s))[j]? = some v → wr.drew.cell? ((⟨H, 0, none⟩ : Addr).add j) = some v := fun j v hj => by
        rw [Addr.add_lit, Nat.zero_add]
        have hjm : j < m := by
          have := (List.getElem?_eq_some_iff.1 hj).1
          simpa using this
        have hv : v = .string s := by
          rw [strsR_get (s := s) (by rw [List.getElem?_replicate, if_pos hjm])] at hj
          cases hj; rfl
        rw [hv]
        refine (Blk.cell (Blk.drew hG.out) j).trans ?_
        rw [List.getElem?_toArray]
        exact strsR_get (by rw [List.getElem?_append_left (by simp; omega), List.getElem?_replicate, if_pos (by omega)])
      rw [if_neg (show ¬ n = k by have := K2.out; omega)]
      refine wpList_copy_splice rfl (.tmp 41) (.tmp 44) 50 50 rfl 22 Tryz.underlying50 (by kernel_rfl) (some ⟨H, k, none⟩) (some ⟨H, 0, none⟩) (n - k) (n - k) k n rfl rfl H k (repS s n k) 22 hG.out (strsR (List.replicate m s)) (by simp [hm]) (fun _ => ⟨rfl, _, rfl, hsrc⟩) (by simp [repS, strsR] <;> omega) (strsR_one _) H w1 (hB.out.drew) (Nat.le_refl _) ?_
      intro w4 hg4 hb4
      rw [show (strsR (List.replicate m s)).length = m by simp]
      rw [repS_splice (by omega)] at hg4
      have G4 := hid (show Blk w4 H (repS s n (k + m)).toArray 22 from hg4.out); have B4 := hid hb4
      have M2 := hid hm2; have M3 := hid hm3
      have f5 : (0 : Int) ≤ (m : Int) := by omega
      have f6 : (m : Int) ≤ 100000 := by omega
      have ew : IntKind.i64.wrap ((k : Int) + (m : Int)) = (k : Int) + (m : Int) := by rw [IntWalk.i64_in _ ⟨by omega, by omega⟩]
      clear hm hm1 hm2 hm3 hsrc hg4 hb4
      go_wp2_with fail
      refine ⟨trivial, ?_⟩
      refine held_more (is := [8, 9]) (g := 0) (by kernel_rfl) rfl trivial (by kernel_rfl) ?_
      iterate 2
        refine ⟨_, rfl, ?_⟩
        apply Exists.intro
        refine ⟨.inl ⟨by rfl, ?_⟩, ?_⟩
        · (intro W' hW'; clear hW'; go_simp; try (with_reducible rfl))
        (dsimp only [Act.put]; try simp only [List.setIfInBounds_toArray, List.set_cons_zero, List.set_cons_succ])
      refine wpAnyH_done (by kernel_rfl) ?_ _
      simp only [Only]
      go_wp2_with fail
      go_roundw
      case rel => exact ⟨k + m, by rw [Int.natCast_add], by have := M3.out; omega, by have := M2.out; have := K2.out; omega, G4, B4⟩
      case measure => simp [intOf] <;> (have := M3.out; have := K2.out; omega)
    · have e1 : k = n := by omega
      subst e1
      go_wp2_with fail
      go_ret
      have hh := HH.out
      subst hh
      refine ⟨rfl, ?_, hB.out⟩
      have := hG.out
      simpa [repS] using this
end Go.Proofs.YtccalhlhdiapiaaGreatDoor
namespace Go.Proofs.YtccalhlhdiapiaaGreatDoor
open Go.RowKit
open Go.Lib (decDigits nDigits)
set_option linter.unusedVariables false
set_option linter.unusedSimpArgs false
theorem p_plus (V : World) (x y : Nat) (hx : nDigits x ≤ 4000) (hy : nDigits y ≤ 4000) (h : nDigits (x + y) ≤ 4000) (hL : Lay V) : Calls Tryz.prog 61 #[.string (numB x), .string (numB y)] V fun e w' => e = .returned (.string (numB (x + y))) ∧ Below V.heap.size V w' := by
  have h2 := g_plus V (numB x) (numB y) (numB_sz hx) (numB_sz hy) hL
  rwa [natB_num hx hy h] at h2
theorem p_times (V : World) (x y : Nat) (hx : nDigits x ≤ 4000) (hy : nDigits y ≤ 4000) (h : nDigits (x * y) ≤ 4000) (hL : Lay V) : Calls Tryz.prog 62 #[.string (numB x), .string (numB y)] V fun e w' => e = .returned (.string (numB (x * y))) ∧ Below V.heap.size V w' := by
  have h2 := g_times V (numB x) (numB y) (numB_sz hx) (numB_sz hy) hL
  rwa [natB_num hx hy h] at h2
theorem p_cmp (V : World) (x y : Nat) (hx : nDigits x ≤ 4000) (hy : nDigits y ≤ 4000) : Calls Tryz.prog 97 #[.string (numB x), .string (numB y)] V fun e w' => e = .returned (.int .i64 (ordN x y)) ∧ Below V.heap.size V w' := by
  have h2 := n_Cmp V (numB x) (numB y) (numB_sz hx) (numB_sz hy)
  rwa [cmpN_num hx hy] at h2
theorem p_sub (V : World) (x y : Nat) (hx : nDigits x ≤ 4000) (hy : nDigits y ≤ 4000) (h : y ≤ x) (hL : Lay V) : Calls Tryz.prog 64 #[.string (numB x), .string (numB y)] V fun e w' => e = .returned (.tuple #[.string (numB (x - y)), .int .i64 0]) ∧ Below V.heap.size V w' := by
  have h2 := n_Sub V (numB x) (numB y) (numB_sz hx) (numB_sz hy) hL
  have h3 : ¬ 4000 < nDigits (x - y) := by have := nDigits_mono (show x - y ≤ x by omega); omega
  have e1 : pairB (subB (bN (numB x)) (bN (numB y))) (numB x) (numB y) = numB (x - y) := by
    rw [bN_num, bN_num, pairB, if_pos ⟨errN_numB hx, errN_numB hy⟩, subB, if_neg (by omega), resB, if_neg h3]
  have e2 : pairE (subE (bN (numB x)) (bN (numB y))) (numB x) (numB y) = 0 := by
    rw [bN_num, bN_num, pairE, if_pos (errN_numB hx), if_pos (errN_numB hy), subE, if_neg (by omega), resE, if_neg h3]
  rwa [e1, e2] at h2
theorem make_bools (n : Nat) (h : n ≤ 1000000) (W : World) : (Instr.makeSlice 111 (.int .i64 (n : Int)) (.int .i64 (n : Int))).run Tryz.prog W = .ok (.slice (some ⟨W.heap.size, 0, none⟩) n n) (W.alloc (.cells (madeCells #[.bool false] n) 4)) :=
  run_make_row' (P := Tryz.prog) 111 4 (.bool false) 1 Tryz.underlying111 (by kernel_rfl) rfl .i64 .i64 n (by omega) (by omega) W
theorem made_bools (f : Nat → Bool) (n : Nat) : madeCells #[.bool false] (n + 1) = (tabL f n 0).toArray := by
  rw [tabL_zero]
  apply Array.ext_getElem?
  intro i
  unfold madeCells
  by_cases hi : i < n + 1 <;> simp [hi, Nat.mod_one]
/-- Two rows of bools, in blocks of the call's own. -/
def TwoB (w : World) (H n : Nat) (v u : Value) (f g : List Value) : Prop := ∃ g1 g2, v = .slice (some ⟨g1, 0, none⟩) (n + 1) (n + 1) ∧ u = .slice (some ⟨g2, 0, none⟩) (n + 1) (n + 1) ∧ g1 ≠ g2 ∧ H ≤ g1 ∧ H ≤ g2 ∧ Blk w g1 f.toArray 4 ∧ Blk w g2 g.toArray 4
/-- What sides gives back. -/
def SidesOut (w : World) (n N D : Nat) (e : Ending) (w' : World) : Prop := ∃ v u, e = .returned (.tuple #[v, u]) ∧ TwoB w' w.heap.size n v u (allB (oneJ N D) n) (allB (zeroJ N D) n)
theorem lit_zero : ((⟨#[48]⟩ : ByteArray).toList == [48]) = true := by
  rw [Lib.toList_data]; rfl
set_option maxRecDepth 100000 in
set_option maxHeartbeats 4000000 in
theorem g_sides (w : World) (a : ByteArray) (n N D : Nat) (ha : a.size ≤ 100000) (he : gPE a = 0) (hn : n ≤ 1000) (hN : bN (cW a) = N) (hD : bN (qD a) = D) (hND : N < D) (hL : Lay w) :
    Calls Tryz.prog 98 #[.string a, .int .i64 n] w fun e w' => SidesOut w n N D e w' ∧ Below w.heap.size w w' := by
  have HR := hid (g_ratio w a ha hL)
  obtain ⟨c1, c2, c3, c4, -⟩ := cPE_ok (gPE_ok he).1
  rw [if_pos he, if_pos he, he] at HR
  rw [c1, c2, hN, hD] at HR
  rw [hN] at c3
  rw [hD] at c4
  have dN : ∀ x, x < 10 ^ (eN + 1) → nDigits x ≤ 4000 := fun x h => numB_small h (by omega) (by unfold eN; omega)
  have hM := fun W => hid (make_bools (n + 1) (by omega) W)
  have HL := hid hL; have HLL := hid hL.lt; have HND := hid hND; have DN := hid dN; have C4 := hid c4; have C3 := hid c3; have HN := hid hn
  have wn : IntKind.i64.wrap ((n : Int) + 1) = ((n + 1 : Nat) : Int) := by rw [IntWalk.i64_in _ ⟨by omega, by omega⟩]; omega
  obtain ⟨sN, hsN⟩ : ∃ s, numB N = s := ⟨_, rfl⟩
  obtain ⟨sD, hsD⟩ : ∃ s, numB D = s := ⟨_, rfl⟩
  rw [hsN, hsD] at HR
  have HSN := hid hsN; have HSD := hid hsD
  clear ha he hn hN hD hND hL c1 c2 c3 c4 dN hsN hsD
  go_enter Tryz.func98, Tryz.ntmps98
  go_wp2_with fail
  refine HR.out.mono ?_; rintro e w1 ⟨rfl, hb1⟩
  have B1 := hid hb1
  clear hb1 HR
  go_upto_region 2 with fail
  go_cut [4, 5] (fun s4 s5 wx => TwoB wx w.heap.size n s4 s5 (tabL (oneJ N D) n 0) (tabL (zeroJ N D) n 0) ∧ Below w.heap.size w wx)
  case first =>
    have X := fun (g1 g2 : Nat) (W : World) (h1 : Blk W g1 (madeCells #[.bool false] (n + 1)) 4) (h2 : Blk W g2 (madeCells #[.bool false] (n + 1)) 4) (h3 : g1 ≠ g2) (h4 : w.heap.size ≤ g1) (h5 : w.heap.size ≤ g2) => hid (show TwoB W w.heap.size n (.slice (some ⟨g1, 0, none⟩) (n + 1) (n + 1)) (.slice (some ⟨g2, 0, none⟩) (n + 1) (n + 1)) (tabL (oneJ N D) n 0) (tabL (zeroJ N D) n 0) from ⟨g1, g2, rfl, rfl, h3, h4, h5, by rw [← made_bools]; exact h1, by rw [← made_bools]; exact h2⟩)
    have M1 : ∀ W, (Instr.makeSlice 111 (.int .i64 ((n : Int) + 1)) (.int .i64 ((n : Int) + 1))).run Tryz.prog W = .ok (.slice (some ⟨W.heap.size, 0, none⟩) (n + 1) (n + 1)) (W.alloc (.cells (madeCells #[.bool false] (n + 1)) 4)) := fun W => (hM W).out
    clear hM
    go_region
    all_goals
      go_wp2_with fail
      go_meet
      first
        | exact ⟨(X w1.heap.size (w1.heap.size + 1) _ ((Blk.new w1 _ _).alloc _) (Blk.made _ _ _ (by simp)) (by omega) B1.out.size (by have := B1.out.size; omega)).out, (((B1.out.alloc B1.out.size _).alloc (by have := B1.out.size; simp; omega) _)).drew⟩
        | exact ⟨(X (w1.heap.size + 1) w1.heap.size _ (Blk.made _ _ _ (by simp)) ((Blk.new w1 _ _).alloc _) (by omega) (by have := B1.out.size; omega) B1.out.size).out, (((B1.out.alloc B1.out.size _).alloc (by have := B1.out.size; simp; omega) _)).drew⟩
  case rest =>
    obtain ⟨⟨g1, g2, rfl, rfl, h3, h4, h5, hb1, hb2⟩, hB⟩ := hcut
    have G1 := hid hb1; have G2 := hid hb2; have B2 := hid hB; have H3 := hid h3; have H4 := hid h4; have H5 := hid h5
    have k0 : wc.cell? ⟨g2, 0, none⟩ = some (.bool false) := by
      refine (hb2.cell 0).trans ?_
      rw [List.getElem?_toArray, tabL_get (Nat.zero_le _)]; simp
    have k1 := hb2.free 0
    have z0 : (0 : Int) < ((n + 1 : Nat) : Int) := by omega
    have z1 : (0 : Int) < (n : Int) + 1 := by omega
    obtain ⟨z, hz⟩ : ∃ z, (sN.toList == [48]) = z := ⟨_, rfl⟩
    have HZ : Hid (z = decide (N = 0)) := by
      show z = decide (N = 0)
      rw [← hz]
      by_cases h0 : N = 0
      · rw [← HSN.out, h0, numB_zero, lit_zero]; simp
      · rw [← HSN.out, ne_lit (l := [48]) (by rw [← numB_zero]; exact numB_ne h0)]
        simp [h0]
    clear hb1 hb2 hB hM h3 h4 h5
    go_wp2_with fail
    obtain ⟨W3, hW3⟩ : ∃ W, wc.setCell ⟨g2, 0, none⟩ (.bool z) = W := ⟨_, rfl⟩
    have G3 : Blk W3 g1 (tabL (oneJ N D) n 1).toArray 4 := by
      rw [← hW3, tabL_skip (f := oneJ N D) (j := 0) rfl]
      exact G1.out.other (fun e => H3.out e.symm) _
    have G4 : Blk W3 g2 (tabL (zeroJ N D) n 1).toArray 4 := by
      have h := G2.out.set 0 (.bool z)
      rw [hW3, List.setIfInBounds_toArray, HZ.out] at h
      have h2 := tabL_set (f := zeroJ N D) (n := n) (j := 0) (Nat.zero_le _)
      rw [← h2]
      exact h
    have B3 : Below w.heap.size w W3 := by rw [← hW3]; exact B2.out.setCell H5.out _
    rw [hW3]
    have HG3 := hid G3; have HG4 := hid G4; have HB3 := hid B3
    have e0 : Hid ((!z) = (sdx N D 0).2) := by show (!z) = _; rw [HZ.out]; simp [sdx]
    clear k0 k1 hz z0 z1 G3 G4 B3 hW3 G1 G2 B2 B1
    go_loopw [9, 10, 11] (fun o x j wr => ∃ i : Nat, j = .int .i64 ((i + 1 : Nat) : Int) ∧ i ≤ n ∧ o = .bool (sdx N D i).2 ∧ x = .string (numB (sdx N D i).1) ∧ Hid (Blk wr g1 (tabL (oneJ N D) n (i + 1)).toArray 4) ∧ Hid (Blk wr g2 (tabL (zeroJ N D) n (i + 1)).toArray 4) ∧ Hid (Below w.heap.size w wr)) (fun o x j wr => n + 1 - (intOf j).toNat)
    case atStart => exact ⟨0, rfl, Nat.zero_le _, by rw [e0.out], by rw [HSN.out.symm]; rfl, HG3.out, HG4.out, HB3.out⟩
    case round =>
      obtain ⟨i, rfl, hi, rfl, rfl, hg1, hg2, hB⟩ := hrel
      cases ho : (sdx N D i).2
      · have GG1 : Blk wr g1 (allB (oneJ N D) n).toArray 4 := by
          rw [← tabL_full (oneJ N D) n (j := n + 1) (by omega), tabL_shut (j := i + 1) (fun k hk => oneJ_shut ho k (by omega)) (n + 1) (by omega)]
          exact hg1.out
        have GG2 : Blk wr g2 (allB (zeroJ N D) n).toArray 4 := by
          rw [← tabL_full (zeroJ N D) n (j := n + 1) (by omega), tabL_shut (j := i + 1) (fun k hk => zeroJ_shut ho k (by omega)) (n + 1) (by omega)]
          exact hg2.out
        have GG1 := hid GG1; have GG2 := hid GG2
        clear ho hi
        go_wp2_with fail
        all_goals
          go_ret2
          exact ⟨⟨_, _, rfl, ⟨g1, g2, rfl, rfl, H3.out, H4.out, H5.out, GG1.out, GG2.out⟩⟩, hB.out⟩
      · by_cases hlt : i + 1 ≤ n
        · obtain ⟨X, hX⟩ : ∃ X, (sdx N D i).1 = X := ⟨_, rfl⟩
          have hXD : X < D := hX ▸ sdx_lt HND.out i
          have hs : sdx N D (i + 1) = if D ≤ 2 * X then (2 * X - D, decide (2 * X ≠ D)) else (2 * X, true) := by rw [sdx, if_pos ho, hX]
          have h1 : oneJ N D (i + 1) = decide (D ≤ 2 * X) := by rw [oneJ, ho, hX]; rfl
          have h0 : zeroJ N D (i + 1) = decide (2 * X ≤ D) := by rw [zeroJ, ho, hX]; rfl
          have p10 : (10 : Nat) ^ (eN + 1) = 10 * 10 ^ eN := by rw [Nat.pow_succ, Nat.mul_comm]
          have q10 := C4.out
          have d1 : nDigits X ≤ 4000 := DN.out X (by omega)
          have d2 : nDigits (X + X) ≤ 4000 := DN.out _ (by omega)
          have d3 : nDigits D ≤ 4000 := DN.out _ (by omega)
          have HPL := fun V hV => hid (p_plus V X X d1 d1 d2 hV)
          have HCM := fun V => hid (p_cmp V (X + X) D d2 d3)
          rw [HSD.out] at HCM
          rw [hX]
          have k1 : wr.cell? ⟨g1, i + 1, none⟩ = some (.bool false) := by
            refine (hg1.out.cell (i + 1)).trans ?_
            rw [List.getElem?_toArray, tabL_get hlt]; simp
          have k2 : wr.cell? ⟨g2, i + 1, none⟩ = some (.bool false) := by
            refine (hg2.out.cell (i + 1)).trans ?_
            rw [List.getElem?_toArray, tabL_get hlt]; simp
          have f0 : (0 : Int) ≤ ((i + 1 : Nat) : Int) := by omega
          have f1 : ((i + 1 : Nat) : Int) < ((n + 1 : Nat) : Int) := by omega
          have f2 : decide (((i + 1 : Nat) : Int) ≤ (n : Int)) = true := by simp; omega
          have f3 : ((i + 1 : Nat) : Int) ≤ 1000 := by have := HN.out; omega
          have f4 : (i : Int) ≤ 1000 := by have := HN.out; omega
          have HLT := hid hlt
          rcases Nat.lt_trichotomy (X + X) D with hc | hc | hc
          · rw [ordN_lt hc] at HCM
            have HS := hid (show sdx N D (i + 1) = (X + X, true) from by rw [hs, if_neg (by omega), Nat.two_mul])
            have T1 := hid (tabL_skip (n := n) (show oneJ N D (i + 1) = false from by rw [h1]; simp; omega))
            have T0 := hid (tabL_set (f := zeroJ N D) hlt)
            have HZ0 := hid (show zeroJ N D (i + 1) = true from by rw [h0]; simp; omega)
            clear hc hs h1 h0 p10 q10 d1 d2 d3 hX hXD ho hi
            go_wp2_with fail
            refine (HPL _ (HL.out.below hB.out HLL.out)).out.mono ?_; rintro e w5 ⟨rfl, hb5⟩
            have G15 := hid (hg1.out.call hb5); have G25 := hid (hg2.out.call hb5); have B5 := hid (hB.out.trans (hb5.mono hB.out.size))
            clear hb5
            go_wp2_with fail
            refine (HCM _).out.mono ?_; rintro e w6 ⟨rfl, hb6⟩
            have G16 := hid (G15.out.call hb6); have G26 := hid (G25.out.call hb6); have B6 := hid (B5.out.trans (hb6.mono B5.out.size))
            have m1 : w6.cell? ⟨g1, i + 1, none⟩ = some (.bool false) := by
              refine (G16.out.cell (i + 1)).trans ?_
              rw [List.getElem?_toArray, tabL_get hlt]; simp
            have m2 : w6.cell? ⟨g2, i + 1, none⟩ = some (.bool false) := by
              refine (G26.out.cell (i + 1)).trans ?_
              rw [List.getElem?_toArray, tabL_get hlt]; simp
            have m3 := G16.out.free (i + 1)
            have m4 := G26.out.free (i + 1)
            clear hb6 hlt k1 k2
            go_wp2_with fail
            go_roundw
            case rel =>
              refine ⟨i + 1, by go_num, HLT.out, by rw [HS.out], by rw [HS.out], ?_, ?_, B6.out.setCell H5.out _⟩
              · show Blk _ _ _ _
                rw [T1.out]
                exact G16.out.other (fun e => H3.out e.symm) _
              · show Blk _ _ _ _
                rw [← T0.out, HZ0.out]
                have h := G26.out.set (i + 1) (.bool true)
                rw [List.setIfInBounds_toArray] at h
                exact h
            case measure => simp [intOf] <;> (have := HLT.out; omega)
          · rw [show ordN (X + X) D = 0 from by rw [hc, ordN_eq]] at HCM
            have hle : D ≤ X + X := by omega
            have HSU := fun V hV => hid (p_sub V (X + X) D d2 d3 hle hV)
            rw [HSD.out] at HSU
            have HS := hid (show sdx N D (i + 1) = (X + X - D, false) from by rw [hs, if_pos (by omega), Nat.two_mul]; simp; omega)
            have T1 := hid (tabL_set (f := oneJ N D) hlt)
            have HZ1 := hid (show oneJ N D (i + 1) = true from by rw [h1]; simp; omega)
            have T0 := hid (tabL_set (f := zeroJ N D) hlt)
            have HZ0 := hid (show zeroJ N D (i + 1) = true from by rw [h0]; simp; omega)
            clear hc hs h1 h0 p10 q10 d1 d2 d3 hX hXD ho hi hle
            go_wp2_with fail
            refine (HPL _ (HL.out.below hB.out HLL.out)).out.mono ?_; rintro e w5 ⟨rfl, hb5⟩
            have G15 := hid (hg1.out.call hb5); have G25 := hid (hg2.out.call hb5); have B5 := hid (hB.out.trans (hb5.mono hB.out.size))
            clear hb5
            go_wp2_with fail
            refine (HCM _).out.mono ?_; rintro e w6 ⟨rfl, hb6⟩
            have G16 := hid (G15.out.call hb6); have G26 := hid (G25.out.call hb6); have B6 := hid (B5.out.trans (hb6.mono B5.out.size))
            have m1 : w6.cell? ⟨g1, i + 1, none⟩ = some (.bool false) := by
              refine (G16.out.cell (i + 1)).trans ?_
              rw [List.getElem?_toArray, tabL_get hlt]; simp
            have m2 : w6.cell? ⟨g2, i + 1, none⟩ = some (.bool false) := by
              refine (G26.out.cell (i + 1)).trans ?_
              rw [List.getElem?_toArray, tabL_get hlt]; simp
            have m3 := G16.out.free (i + 1)
            have m4 := G26.out.free (i + 1)
            clear hb6 hlt k1 k2
            go_wp2_with fail
            refine (HSU _ (HL.out.below B6.out HLL.out)).out.mono ?_; rintro e w7 ⟨rfl, hb7⟩
            have G17 := hid (G16.out.call hb7); have G27 := hid (G26.out.call hb7); have B7 := hid (B6.out.trans (hb7.mono B6.out.size))
            have n1 := (hb7.cell (cell_lt m1)).trans m1
            have n3 := G17.out.free (i + 1)
            have n2 : (w7.setCell ⟨g1, i + 1, none⟩ (.bool true)).cell? ⟨g2, i + 1, none⟩ = some (.bool false) := ((G27.out.other (fun e => H3.out e) (.bool true)).cell (i + 1)).trans (by rw [List.getElem?_toArray, tabL_get HLT.out]; simp)
            have n4 : (w7.setCell ⟨g1, i + 1, none⟩ (.bool true)).frozen? ⟨g2, i + 1, none⟩ = false := (G27.out.other (a := ⟨g1, i + 1, none⟩) (fun e => H3.out e) (.bool true)).free (i + 1)
            clear hb7 m1 m2 m3 m4
            go_wp2_with fail
            go_roundw
            case rel =>
              refine ⟨i + 1, by go_num, HLT.out, by rw [HS.out], by rw [HS.out], ?_, ?_, ((B7.out.setCell H4.out _).setCell H5.out _)⟩
              · show Blk _ _ _ _
                rw [← T1.out, HZ1.out]
                have h := (G17.out.set (i + 1) (.bool true)).other (a := ⟨g2, i + 1, none⟩) (fun e => H3.out e.symm) (.bool true)
                rw [List.setIfInBounds_toArray] at h
                exact h
              · show Blk _ _ _ _
                rw [← T0.out, HZ0.out]
                have h := (G27.out.other (a := ⟨g1, i + 1, none⟩) (fun e => H3.out e) (.bool true)).set (i + 1) (.bool true)
                rw [List.setIfInBounds_toArray] at h
                exact h
            case measure => simp [intOf] <;> (have := HLT.out; omega)
          · rw [ordN_gt hc] at HCM
            have hle : D ≤ X + X := by omega
            have HSU := fun V hV => hid (p_sub V (X + X) D d2 d3 hle hV)
            rw [HSD.out] at HSU
            have HS := hid (show sdx N D (i + 1) = (X + X - D, true) from by rw [hs, if_pos (by omega), Nat.two_mul]; simp; omega)
            have T1 := hid (tabL_set (f := oneJ N D) hlt)
            have HZ1 := hid (show oneJ N D (i + 1) = true from by rw [h1]; simp; omega)
            have T0 := hid (tabL_set (f := zeroJ N D) hlt)
            have HZ0 := hid (show zeroJ N D (i + 1) = false from by rw [h0]; simp; omega)
            clear hc hs h1 h0 p10 q10 d1 d2 d3 hX hXD ho hi hle
            go_wp2_with fail
            refine (HPL _ (HL.out.below hB.out HLL.out)).out.mono ?_; rintro e w5 ⟨rfl, hb5⟩
            have G15 := hid (hg1.out.call hb5); have G25 := hid (hg2.out.call hb5); have B5 := hid (hB.out.trans (hb5.mono hB.out.size))
            clear hb5
            go_wp2_with fail
            refine (HCM _).out.mono ?_; rintro e w6 ⟨rfl, hb6⟩
            have G16 := hid (G15.out.call hb6); have G26 := hid (G25.out.call hb6); have B6 := hid (B5.out.trans (hb6.mono B5.out.size))
            have m1 : w6.cell? ⟨g1, i + 1, none⟩ = some (.bool false) := by
              refine (G16.out.cell (i + 1)).trans ?_
              rw [List.getElem?_toArray, tabL_get hlt]; simp
            have m2 : w6.cell? ⟨g2, i + 1, none⟩ = some (.bool false) := by
              refine (G26.out.cell (i + 1)).trans ?_
              rw [List.getElem?_toArray, tabL_get hlt]; simp
            have m3 := G16.out.free (i + 1)
            have m4 := G26.out.free (i + 1)
            clear hb6 hlt k1 k2
            go_wp2_with fail
            refine (HSU _ (HL.out.below B6.out HLL.out)).out.mono ?_; rintro e w7 ⟨rfl, hb7⟩
            have G17 := hid (G16.out.call hb7); have G27 := hid (G26.out.call hb7); have B7 := hid (B6.out.trans (hb7.mono B6.out.size))
            have n1 := (hb7.cell (cell_lt m1)).trans m1
            have n3 := G17.out.free (i + 1)
            have n2 : (w7.setCell ⟨g1, i + 1, none⟩ (.bool true)).cell? ⟨g2, i + 1, none⟩ = some (.bool false) := ((G27.out.other (fun e => H3.out e) (.bool true)).cell (i + 1)).trans (by rw [List.getElem?_toArray, tabL_get HLT.out]; simp)
            have n4 : (w7.setCell ⟨g1, i + 1, none⟩ (.bool true)).frozen? ⟨g2, i + 1, none⟩ = false := (G27.out.other (a := ⟨g1, i + 1, none⟩) (fun e => H3.out e) (.bool true)).free (i + 1)
            clear hb7 m1 m2 m3 m4
            go_wp2_with fail
            go_roundw
            case rel =>
              refine ⟨i + 1, by go_num, HLT.out, by rw [HS.out], by rw [HS.out], ?_, ?_, ((B7.out.setCell H4.out _).setCell H5.out _)⟩
              · show Blk _ _ _ _
                rw [← T1.out, HZ1.out]
                have h := (G17.out.set (i + 1) (.bool true)).other (a := ⟨g2, i + 1, none⟩) (fun e => H3.out e.symm) (.bool false)
                rw [List.setIfInBounds_toArray] at h
                exact h
              · show Blk _ _ _ _
                rw [← T0.out, HZ0.out]
                have h := (G27.out.other (a := ⟨g1, i + 1, none⟩) (fun e => H3.out e) (.bool true)).set (i + 1) (.bool false)
                rw [List.setIfInBounds_toArray] at h
                exact h
            case measure => simp [intOf] <;> (have := HLT.out; omega)
        · have e1 : i = n := by omega
          subst e1
          have f2 : decide (((i + 1 : Nat) : Int) ≤ (i : Int)) = false := by simp; omega
          have GG1 : Blk wr g1 (allB (oneJ N D) i).toArray 4 := by
            rw [← tabL_full (oneJ N D) i (j := i + 1) (by omega)]
            exact hg1.out
          have GG2 : Blk wr g2 (allB (zeroJ N D) i).toArray 4 := by
            rw [← tabL_full (zeroJ N D) i (j := i + 1) (by omega)]
            exact hg2.out
          have GG1 := hid GG1; have GG2 := hid GG2
          clear ho hi hlt
          go_wp2_with fail
          go_ret2
          exact ⟨⟨_, _, rfl, ⟨g1, g2, rfl, rfl, H3.out, H4.out, H5.out, GG1.out, GG2.out⟩⟩, hB.out⟩
end Go.Proofs.YtccalhlhdiapiaaGreatDoor
namespace Go.Proofs.YtccalhlhdiapiaaGreatDoor
open Go.RowKit
open Go.Lib (decDigits nDigits)
set_option linter.unusedVariables false
set_option linter.unusedSimpArgs false
/-- Rows of numbers' texts. -/
def NRowT (w : World) (g : Nat) (l : List Nat) : Prop := Blk w g (numL l).toArray 22
theorem NRowT.cell {w : World} {g : Nat} {l : List Nat} (h : NRowT w g l) {i : Nat} (hi : i < l.length) : w.cell? ⟨g, i, none⟩ = some (.string (numB (l.getD i 0))) := by
  refine (Blk.cell h i).trans ?_
  rw [List.getElem?_toArray, numL_get hi]
theorem NRowT.free {w : World} {g : Nat} {l : List Nat} (h : NRowT w g l) (i : Nat) : w.frozen? ⟨g, i, none⟩ = false := Blk.free h i
theorem NRowT.set {w : World} {g : Nat} {l : List Nat} (h : NRowT w g l) (i x : Nat) : NRowT (w.setCell ⟨g, i, none⟩ (.string (numB x))) g (l.set i x) := by
  have := Blk.set h i (.string (numB x))
  rw [List.setIfInBounds_toArray, numL_set] at this
  exact this
theorem NRowT.call {w w' : World} {g : Nat} {l : List Nat} (h : NRowT w g l) (hb : Below w.heap.size w w') : NRowT w' g l := Blk.call h hb
theorem NRowT.other {w : World} {g : Nat} {l : List Nat} (h : NRowT w g l) {a : Addr} (ha : a.block ≠ g) (v : Value) : NRowT (w.setCell a v) g l := Blk.other h ha v
theorem NRowT.zeros {w : World} {g n : Nat} (h : Blk w g (strsR (List.replicate n ⟨#[48]⟩)).toArray 22) : NRowT w g (List.replicate n 0) := by
  have e : numL (List.replicate n 0) = strsR (List.replicate n ⟨#[48]⟩) := by
    unfold numL strsR
    rw [List.map_replicate, List.map_replicate, numB_zero]
  unfold NRowT
  rw [e]; exact h
/-- What totals gives back. -/
def TotOut (w : World) (n N D : Nat) (e : Ending) (w' : World) : Prop := ∃ g, e = .returned (.slice (some ⟨g, 0, none⟩) (n + 1) (n + 1)) ∧ w.heap.size ≤ g ∧ NRowT w' g (tOut (oneJ N D) (zeroJ N D) n (n + 1)).2
set_option maxRecDepth 100000 in
set_option maxHeartbeats 8000000 in
theorem g_totals (w : World) (a : ByteArray) (n N D : Nat) (ha : a.size ≤ 100000) (he : gPE a = 0) (hn : n ≤ 1000) (hN : bN (cW a) = N) (hD : bN (qD a) = D) (hND : N < D) (hL : Lay w) :
    Calls Tryz.prog 59 #[.string a, .int .i64 n] w fun e w' => TotOut w n N D e w' ∧ Below w.heap.size w w' := by
  have HS := hid (g_sides w a n N D ha he hn hN hD hND hL)
  have HR := fun V g h => hid (s_Repeat V g (n + 1) ⟨#[48]⟩ (by omega) (by omega) h)
  have HL := hid hL; have HLL := hid hL.lt; have HN := hid hn
  have wn : IntKind.i64.wrap ((n : Int) + 1) = ((n + 1 : Nat) : Int) := by rw [IntWalk.i64_in _ ⟨by omega, by omega⟩]; omega
  have h00 := hid (show oneJ N D 0 = false from rfl)
  obtain ⟨os, hos⟩ : ∃ f, oneJ N D = f := ⟨_, rfl⟩
  obtain ⟨zs, hzs⟩ : ∃ f, zeroJ N D = f := ⟨_, rfl⟩
  have HOS := hid hos; have HZS := hid hzs
  rw [hos] at h00
  clear ha he hn hN hD hND hL hos hzs
  go_enter Tryz.func59, Tryz.ntmps59
  go_wp2_with fail
  refine HS.out.mono ?_; rintro e w1 ⟨⟨v1, v2, rfl, ⟨g1, g2, rfl, rfl, h3, h4, h5, hg1, hg2⟩⟩, hb1⟩
  rw [HOS.out] at hg1
  rw [HZS.out] at hg2
  have G1 := hid hg1; have G2 := hid hg2; have B1 := hid hb1; have K1 := hid h4; have K2 := hid h5
  clear hg1 hg2 hb1 h3 h4 h5 HS
  go_wp2_with fail
  refine (HR _ _ ((Blk.new w1 _ _).cell 0)).out.mono ?_; rintro e w2 ⟨rfl, hg7, hb2⟩
  obtain ⟨g7, h7⟩ : ∃ g, (w1.alloc (.cells #[.string ⟨#[48]⟩] 22)).heap.size = g := ⟨_, rfl⟩
  rw [h7] at hg7 ⊢
  have R7 := hid (NRowT.zeros hg7)
  have a1 := (Below.refl w1.heap.size w1).alloc (Nat.le_refl _) (.cells #[.string ⟨#[48]⟩] 22)
  have b2 := hid (bnext a1 hb2)
  have K7 := hid (show w1.heap.size < g7 by rw [← h7]; simp)
  have B2 := hid (B1.out.trans (b2.out.mono B1.out.size)); have G12 := hid (G1.out.call b2.out); have G22 := hid (G2.out.call b2.out)
  have L7 := hid (show g7 < w2.heap.size from Blk.lt hg7)
  clear hg7 hb2 a1 h7
  go_wp2_with fail
  refine (HR _ _ ((Blk.new w2 _ _).cell 0)).out.mono ?_; rintro e w3 ⟨rfl, hg8, hb3⟩
  obtain ⟨g8, h8⟩ : ∃ g, (w2.alloc (.cells #[.string ⟨#[48]⟩] 22)).heap.size = g := ⟨_, rfl⟩
  rw [h8] at hg8 ⊢
  have R8 := hid (NRowT.zeros hg8)
  have a2 := (Below.refl w2.heap.size w2).alloc (Nat.le_refl _) (.cells #[.string ⟨#[48]⟩] 22)
  have b3 := hid (bnext a2 hb3)
  have K8 := hid (show w2.heap.size < g8 by rw [← h8]; simp)
  have B3 := hid (B2.out.trans (b3.out.mono B2.out.size)); have G13 := hid (G12.out.call b3.out); have G23 := hid (G22.out.call b3.out); have R73 := hid (R7.out.call b3.out)
  have N1 := hid (show g1 < w1.heap.size from Blk.lt G1.out); have N2 := hid (show g2 < w1.heap.size from Blk.lt G2.out)
  have z12 := hid b2.out.size; have zw1 := hid B1.out.size
  clear hg8 hb3 a2 h8 HR
  have k0 : w3.cell? ⟨g7, 0, none⟩ = some (.string ⟨#[48]⟩) := by
    refine (R73.out.cell (i := 0) (by simp)).trans ?_
    rw [← numB_zero]; simp [List.getD_eq_getElem?_getD]
  have k1 := R73.out.free 0
  have z0 : (0 : Int) < ((n + 1 : Nat) : Int) := by omega
  have z1 : (0 : Int) < (n : Int) + 1 := by omega
  go_wp2_with fail
  have X7 : Hid (7 = 7) := rfl
  have hne : g7 ≠ g8 := by have := L7.out; have := K8.out; omega
  obtain ⟨W3, hW3⟩ : ∃ W, w3.setCell ⟨g7, 0, none⟩ (.string ⟨#[49]⟩) = W := ⟨_, rfl⟩
  have S7 : NRowT W3 g7 (tOut os zs n 0).1 := by
    rw [← hW3, ← numB_one]
    have h := R73.out.set 0 1
    rw [show (List.replicate (n + 1) 0).set 0 1 = 1 :: List.replicate n 0 by rw [List.replicate_succ]; rfl] at h
    exact h
  have S8 : NRowT W3 g8 (tOut os zs n 0).2 := by rw [← hW3]; exact R8.out.other hne _
  have S1 : Blk W3 g1 (allB os n).toArray 4 := by rw [← hW3]; exact G13.out.other (by have := K7.out; have := N1.out; simp; omega) _
  have S2 : Blk W3 g2 (allB zs n).toArray 4 := by rw [← hW3]; exact G23.out.other (by have := K7.out; have := N2.out; simp; omega) _
  have SB : Below w.heap.size w W3 := by rw [← hW3]; exact B3.out.setCell (by have := K7.out; have := zw1.out; simp; omega) _
  rw [hW3]
  have T7 := hid S7; have T8 := hid S8; have T1 := hid S1; have T2 := hid S2; have TBl := hid SB; have NE := hid hne
  have Q7 := hid (show w.heap.size ≤ g7 by have := K7.out; have := zw1.out; omega); have Q8 := hid (show w.heap.size ≤ g8 by have := K7.out; have := K8.out; have := L7.out; have := zw1.out; omega)
  have M17 := hid (show g1 ≠ g7 by have := K7.out; have := N1.out; omega); have M18 := hid (show g1 ≠ g8 by have := K7.out; have := K8.out; have := L7.out; have := N1.out; omega)
  have M27 := hid (show g2 ≠ g7 by have := K7.out; have := N2.out; omega); have M28 := hid (show g2 ≠ g8 by have := K7.out; have := K8.out; have := L7.out; have := N2.out; omega)
  clear k0 k1 z0 z1 S7 S8 S1 S2 SB hne hW3 X7 R73 R8 G13 G23 B3 b3 R7 G12 G22 B2 b2 G1 G2 B1 K7 K8 L7 z12 zw1 N1 N2
  go_loopw [29] (fun ii wr => ∃ i : Nat, ii = .int .i64 (i : Nat) ∧ i ≤ n + 1 ∧ Hid (NRowT wr g7 (tOut os zs n i).1) ∧ Hid (NRowT wr g8 (tOut os zs n i).2) ∧ Hid (Blk wr g1 (allB os n).toArray 4) ∧ Hid (Blk wr g2 (allB zs n).toArray 4) ∧ Hid (Below w.heap.size w wr)) (fun ii wr => n + 1 - (intOf ii).toNat)
  case atStart => exact ⟨0, rfl, Nat.zero_le _, T7.out, T8.out, T1.out, T2.out, TBl.out⟩
  case round =>
    obtain ⟨i, rfl, hi, hg7, hg8, hg1, hg2, hB⟩ := hrel
    by_cases hlt : i < n + 1
    · have q0 : decide ((i : Int) < ((n + 1 : Nat) : Int)) = true := by simp; omega
      have f0 : (0 : Int) ≤ (i : Int) := by omega
      have f1 : (i : Int) < ((n + 1 : Nat) : Int) := by omega
      have f2 : (i : Int) ≤ 1000 := by have := HN.out; omega
      have IL := hid hlt
      have TBI := hid (TB.outer (os := os) (zs := zs) h00.out n i hi)
      clear hi hlt
      go_wp2_with fail
      obtain ⟨x, hx⟩ : ∃ x, (tOut os zs n i).1.getD i 0 = x := ⟨_, rfl⟩
      obtain ⟨wo, rfl⟩ : ∃ wo : World, wo = wr := ⟨_, rfl⟩
      by_cases hx0 : x = 0
      · have k0 : wo.cell? ⟨g7, i, none⟩ = some (.string (numB x)) := by rw [← hx]; exact hg7.out.cell (by rw [TBI.out.l1]; exact IL.out)
        have q1 : ((numB x).toList == [48]) = true := by rw [hx0, numB_zero]; exact lit_zero
        have hnext := hid (show tOut os zs n (i + 1) = tOut os zs n i from by rw [tOut, if_pos (by rw [hx]; exact hx0)])
        obtain ⟨sx, hsx⟩ : ∃ s, numB x = s := ⟨_, rfl⟩
        rw [hsx] at k0 q1
        clear hx hx0 hsx
        go_loopw [10] (fun jj wq => jj = .int .i64 0 ∧ wq = wo) (fun jj wq => 0)
        case atStart => exact ⟨rfl, rfl⟩
        case round =>
          obtain ⟨rfl, rfl⟩ := hrel
          go_wp2_with fail
          go_roundw
          case rel => exact ⟨i + 1, by go_num, by have := IL.out; omega, by rw [hnext.out]; exact hg7, by rw [hnext.out]; exact hg8, hg1, hg2, hB⟩
          case measure => simp [intOf] <;> (have := IL.out; omega)
      · have q1 : ((numB x).toList == [48]) = false := ne_lit (l := [48]) (by rw [← numB_zero]; exact numB_ne hx0)
        have hnext := hid (show tOut os zs n (i + 1) = tIn os zs i (n + 1 - i) (tOut os zs n i) from by rw [tOut, if_neg (by rw [hx]; exact hx0)])
        obtain ⟨s0, hs0⟩ : ∃ s, tOut os zs n i = s := ⟨_, rfl⟩
        rw [hs0] at hx hg7 hg8 hnext TBI
        have HX := hid hx
        obtain ⟨sx, hsx⟩ : ∃ s, numB x = s := ⟨_, rfl⟩
        rw [hsx] at q1
        have HSX := hid hsx
        clear hx hx0 hsx hs0
        have d30 : decide ((i : Int) < (n : Int) + 1) = true := by have := IL.out; simp; omega
        rw [d30]
        clear d30
        go_loopw [10] (fun jj wq => ∃ j : Nat, jj = .int .i64 (j : Nat) ∧ i + j ≤ n + 1 ∧ Hid (NRowT wq g7 (tIn os zs i j s0).1) ∧ Hid (NRowT wq g8 (tIn os zs i j s0).2) ∧ Hid (Blk wq g1 (allB os n).toArray 4) ∧ Hid (Blk wq g2 (allB zs n).toArray 4) ∧ Hid (Below w.heap.size w wq)) (fun jj wq => n + 1 - (intOf jj).toNat)
        case atStart => exact ⟨0, rfl, by have := IL.out; omega, hg7, hg8, hg1, hg2, hB⟩
        case round =>
          clear hg7 hg8 hg1 hg2 hB
          obtain ⟨j, rfl, hj, hg7, hg8, hg1, hg2, hB⟩ := hrel
          have TBJ := hid (TB.inner (os := os) (zs := zs) h00.out TBI.out j hj)
          have k0 : wr.cell? ⟨g7, i, none⟩ = some (.string sx) := by
            refine (hg7.out.cell (by rw [TBJ.out.1.l1]; exact IL.out)).trans ?_
            rw [TBJ.out.2, HX.out, HSX.out]
          by_cases hlt : i + j ≤ n
          · have q2 : decide ((i : Int) + (j : Int) ≤ (n : Int)) = true := by simp; omega
            have f5 : (0 : Int) ≤ (j : Int) := by omega
            have f6 : (j : Int) < ((n + 1 : Nat) : Int) := by omega
            have f7 : (j : Int) ≤ 1000 := by have := HN.out; omega
            have f8 : (i : Int) + (j : Int) < ((n + 1 : Nat) : Int) := by omega
            have f9 : (i : Int) + (j : Int) < (n : Int) + 1 := by omega
            have f10 : (0 : Int) ≤ (i : Int) + (j : Int) := by omega
            have c1 : wr.cell? ⟨g1, j, none⟩ = some (.bool (os j)) := (hg1.out.cell j).trans (by rw [List.getElem?_toArray, allB_get (by omega)])
            have c2 : wr.cell? ⟨g2, j, none⟩ = some (.bool (zs j)) := (hg2.out.cell j).trans (by rw [List.getElem?_toArray, allB_get (by omega)])
            have HLT := hid hlt
            obtain ⟨zj, hzj⟩ : ∃ b, zs j = b := ⟨_, rfl⟩
            obtain ⟨oj, hoj⟩ : ∃ b, os j = b := ⟨_, rfl⟩
            rw [hoj] at c1
            rw [hzj] at c2
            have HZJ := hid hzj; have HOJ := hid hoj
            clear hlt hj hzj hoj
            obtain ⟨y1, hy1⟩ : ∃ y, (tIn os zs i j s0).2.getD (i + j) 0 = y := ⟨_, rfl⟩
            obtain ⟨y2, hy2⟩ : ∃ y, (tIn os zs i j s0).1.getD (i + j) 0 = y := ⟨_, rfl⟩
            have p2 : 2 ^ (i + 1) = 2 ^ i + 2 ^ i := by rw [Nat.pow_succ]; omega
            have hxb : x ≤ 2 ^ i := by rw [← HX.out]; exact TBI.out.src
            have hy1b : y1 ≤ 2 ^ i := hy1 ▸ TBJ.out.1.hi2 _ (Nat.le_refl _)
            have hy2b : y2 ≤ 2 ^ i := hy2 ▸ TBJ.out.1.hi1 _ (Nat.le_refl _)
            have i1000 : i ≤ 1000 := by have := IL.out; have := HN.out; omega
            have dx := two_pow_digits hxb (by omega)
            have P1 := fun V hV => hid (p_plus V y1 x (two_pow_digits hy1b (by omega)) dx (two_pow_digits (i := i + 1) (by omega) (by omega)) hV)
            have P2 := fun V hV => hid (p_plus V y2 x (two_pow_digits hy2b (by omega)) dx (two_pow_digits (i := i + 1) (by omega) (by omega)) hV)
            have t1 : wr.cell? ⟨g8, i + j, none⟩ = some (.string (numB y1)) := by rw [← hy1]; exact hg8.out.cell (by rw [TBJ.out.1.l2]; have := HLT.out; omega)
            have t2 : wr.cell? ⟨g7, i + j, none⟩ = some (.string (numB y2)) := by rw [← hy2]; exact hg7.out.cell (by rw [TBJ.out.1.l1]; have := HLT.out; omega)
            rw [HSX.out] at P1 P2
            obtain ⟨u1, hu1⟩ : ∃ s, numB y1 = s := ⟨_, rfl⟩
            obtain ⟨u2, hu2⟩ : ∃ s, numB y2 = s := ⟨_, rfl⟩
            rw [hu1] at P1 t1
            rw [hu2] at P2 t2
            have HY1 := hid hy1; have HY2 := hid hy2; have HU2 := hid hu2
            have hstep := hid (show tIn os zs i (j + 1) s0 = (addAt oj (i + j) x (tIn os zs i j s0).1, addAt zj (i + j) x (tIn os zs i j s0).2) from by rw [tIn, tStep, HOJ.out, HZJ.out, TBJ.out.2, HX.out])
            obtain ⟨m1, hm1⟩ : ∃ s, numB (y1 + x) = s := ⟨_, rfl⟩
            obtain ⟨m2, hm2⟩ : ∃ s, numB (y2 + x) = s := ⟨_, rfl⟩
            rw [hm1] at P1
            rw [hm2] at P2
            have HM1 := hid hm1; have HM2 := hid hm2
            clear hm1 hm2
            clear hy1 hy2 p2 hxb hy1b hy2b i1000 dx hu1 hu2
            cases zj
            · cases oj
              · go_wp2_with fail
                go_roundw
                case rel => exact ⟨j + 1, by go_num, by have := HLT.out; omega, by rw [hstep.out]; exact hg7, by rw [hstep.out]; exact hg8, hg1, hg2, hB⟩
                case measure => simp [intOf] <;> (have := HLT.out; omega)
              · go_wp2_with fail
                have ew : IntKind.i64.wrap ((i : Int) + (j : Int)) = (i : Int) + (j : Int) := by rw [IntWalk.i64_in _ ⟨by omega, by omega⟩]
                have et : ((i : Int) + (j : Int)).toNat = i + j := by omega
                refine held_lasts 15 2 [0, 1, 2, 3, 4, 5, 6, 7, 8, 9, 10, 11, 12, 13] 1 (fun W' => W'.cell? ⟨g7, i + j, none⟩ = some (.string u2) ∧ W'.cell? ⟨g7, i, none⟩ = some (.string sx)) (by kernel_rfl) rfl (by kernel_rfl) (by kernel_rfl) (by kernel_rfl) (by kernel_rfl) ⟨t2, k0⟩ ?_
                iterate 14
                  refine ⟨_, rfl, ?_⟩
                  apply Exists.intro
                  refine ⟨.inl ⟨by rfl, ?_⟩, ?_⟩
                  · (intro W' hW'; obtain ⟨r1, r2⟩ := hW'; go_simp; try (with_reducible rfl))
                  (dsimp only [Act.put]; try simp only [List.setIfInBounds_toArray, List.set_cons_zero, List.set_cons_succ])
                refine held_one (i := 14) (by kernel_rfl) (by rfl) (by rfl) ?_
                go_wp2_with fail
                refine (P2 _ (HL.out.below hB.out.drew HLL.out)).out.mono ?_; rintro e w5 ⟨rfl, hbc⟩
                have Ca := hid (show Below wr.heap.size wr w5 from (Below.refl _ _).drew.trans hbc)
                have E7a := hid (hg7.out.call Ca.out); have E8a := hid (hg8.out.call Ca.out); have E1a := hid (hg1.out.call Ca.out); have E2a := hid (hg2.out.call Ca.out); have EBa := hid (hB.out.trans (Ca.out.mono hB.out.size))
                have tca := (Ca.out.cell (cell_lt t2)).trans t2
                have kca := (Ca.out.cell (cell_lt k0)).trans k0
                clear hbc
                go_wp2_with fail
                refine ⟨⟨tca, kca⟩, ?_⟩
                refine wpAnyH_done (by kernel_rfl) ?_ _
                simp only [Only, ThenL, List.drop_succ_cons, List.drop_zero]
                have fza := E7a.out.free (i + j)
                clear kca
                go_wp2_with fail
                try simp only [Only]
                go_roundw
                case rel =>
                  refine ⟨j + 1, by go_num, by have := HLT.out; omega, ?_, ?_, E1a.out.other (fun e => M17.out e.symm) _, E2a.out.other (fun e => M27.out e.symm) _, EBa.out.setCell Q7.out _⟩
                  · show NRowT _ _ _
                    rw [hstep.out, addAt_true, HY2.out, ← HM2.out]
                    exact E7a.out.set (i + j) (y2 + x)
                  · show NRowT _ _ _
                    rw [hstep.out, addAt_false]
                    exact E8a.out.other (fun e => NE.out e) _
                case measure => simp [intOf] <;> (have := HLT.out; omega)
            · cases oj
              · go_wp2_with fail
                have ew : IntKind.i64.wrap ((i : Int) + (j : Int)) = (i : Int) + (j : Int) := by rw [IntWalk.i64_in _ ⟨by omega, by omega⟩]
                have et : ((i : Int) + (j : Int)).toNat = i + j := by omega
                refine held_lasts 15 2 [0, 1, 2, 3, 4, 5, 6, 7, 8, 9, 10, 11, 12, 13] 1 (fun W' => W'.cell? ⟨g8, i + j, none⟩ = some (.string u1) ∧ W'.cell? ⟨g7, i, none⟩ = some (.string sx)) (by kernel_rfl) rfl (by kernel_rfl) (by kernel_rfl) (by kernel_rfl) (by kernel_rfl) ⟨t1, k0⟩ ?_
                iterate 14
                  refine ⟨_, rfl, ?_⟩
                  apply Exists.intro
                  refine ⟨.inl ⟨by rfl, ?_⟩, ?_⟩
                  · (intro W' hW'; obtain ⟨r1, r2⟩ := hW'; go_simp; try (with_reducible rfl))
                  (dsimp only [Act.put]; try simp only [List.setIfInBounds_toArray, List.set_cons_zero, List.set_cons_succ])
                refine held_one (i := 14) (by kernel_rfl) (by rfl) (by rfl) ?_
                go_wp2_with fail
                refine (P1 _ (HL.out.below hB.out.drew HLL.out)).out.mono ?_; rintro e w5 ⟨rfl, hbc⟩
                have Ca := hid (show Below wr.heap.size wr w5 from (Below.refl _ _).drew.trans hbc)
                have E7a := hid (hg7.out.call Ca.out); have E8a := hid (hg8.out.call Ca.out); have E1a := hid (hg1.out.call Ca.out); have E2a := hid (hg2.out.call Ca.out); have EBa := hid (hB.out.trans (Ca.out.mono hB.out.size))
                have tca := (Ca.out.cell (cell_lt t1)).trans t1
                have kca := (Ca.out.cell (cell_lt k0)).trans k0
                clear hbc
                go_wp2_with fail
                refine ⟨⟨tca, kca⟩, ?_⟩
                refine wpAnyH_done (by kernel_rfl) ?_ _
                simp only [Only, ThenL, List.drop_succ_cons, List.drop_zero]
                have fza := E8a.out.free (i + j)
                have c1s : (w5.setCell ⟨g8, i + j, none⟩ (.string m1)).cell? ⟨g1, j, none⟩ = some (.bool false) := ((E1a.out.other (a := ⟨g8, i + j, none⟩) (fun e => M18.out e.symm) (.string m1)).cell j).trans (by rw [List.getElem?_toArray, allB_get (by have := HLT.out; omega), HOJ.out])
                clear kca
                go_wp2_with fail
                try simp only [Only]
                go_roundw
                case rel =>
                  refine ⟨j + 1, by go_num, by have := HLT.out; omega, ?_, ?_, E1a.out.other (fun e => M18.out e.symm) _, E2a.out.other (fun e => M28.out e.symm) _, EBa.out.setCell Q8.out _⟩
                  · show NRowT _ _ _
                    rw [hstep.out, addAt_false]
                    exact E7a.out.other (fun e => NE.out e.symm) _
                  · show NRowT _ _ _
                    rw [hstep.out, addAt_true, HY1.out, ← HM1.out]
                    exact E8a.out.set (i + j) (y1 + x)
                case measure => simp [intOf] <;> (have := HLT.out; omega)
              · go_wp2_with fail
                have ew : IntKind.i64.wrap ((i : Int) + (j : Int)) = (i : Int) + (j : Int) := by rw [IntWalk.i64_in _ ⟨by omega, by omega⟩]
                have et : ((i : Int) + (j : Int)).toNat = i + j := by omega
                refine held_lasts 15 2 [0, 1, 2, 3, 4, 5, 6, 7, 8, 9, 10, 11, 12, 13] 1 (fun W' => W'.cell? ⟨g8, i + j, none⟩ = some (.string u1) ∧ W'.cell? ⟨g7, i, none⟩ = some (.string sx)) (by kernel_rfl) rfl (by kernel_rfl) (by kernel_rfl) (by kernel_rfl) (by kernel_rfl) ⟨t1, k0⟩ ?_
                iterate 14
                  refine ⟨_, rfl, ?_⟩
                  apply Exists.intro
                  refine ⟨.inl ⟨by rfl, ?_⟩, ?_⟩
                  · (intro W' hW'; obtain ⟨r1, r2⟩ := hW'; go_simp; try (with_reducible rfl))
                  (dsimp only [Act.put]; try simp only [List.setIfInBounds_toArray, List.set_cons_zero, List.set_cons_succ])
                refine held_one (i := 14) (by kernel_rfl) (by rfl) (by rfl) ?_
                go_wp2_with fail
                refine (P1 _ (HL.out.below hB.out.drew HLL.out)).out.mono ?_; rintro e w5 ⟨rfl, hbc⟩
                have Ca := hid (show Below wr.heap.size wr w5 from (Below.refl _ _).drew.trans hbc)
                have E7a := hid (hg7.out.call Ca.out); have E8a := hid (hg8.out.call Ca.out); have E1a := hid (hg1.out.call Ca.out); have E2a := hid (hg2.out.call Ca.out); have EBa := hid (hB.out.trans (Ca.out.mono hB.out.size))
                have tca := (Ca.out.cell (cell_lt t1)).trans t1
                have kca := (Ca.out.cell (cell_lt k0)).trans k0
                clear hbc
                go_wp2_with fail
                refine ⟨⟨tca, kca⟩, ?_⟩
                refine wpAnyH_done (by kernel_rfl) ?_ _
                simp only [Only, ThenL, List.drop_succ_cons, List.drop_zero]
                have fza := E8a.out.free (i + j)
                have c1s : (w5.setCell ⟨g8, i + j, none⟩ (.string m1)).cell? ⟨g1, j, none⟩ = some (.bool true) := ((E1a.out.other (a := ⟨g8, i + j, none⟩) (fun e => M18.out e.symm) (.string m1)).cell j).trans (by rw [List.getElem?_toArray, allB_get (by have := HLT.out; omega), HOJ.out])
                clear kca
                go_wp2_with fail
                try simp only [Only]
                obtain ⟨w6, hw6⟩ : ∃ W, w5.setCell ⟨g8, i + j, none⟩ (.string m1) = W := ⟨_, rfl⟩
                have F7 : Hid (NRowT w6 g7 (tIn os zs i j s0).1) := by rw [← hw6]; exact E7a.out.other (fun e => NE.out e.symm) _
                have F8 : Hid (NRowT w6 g8 ((tIn os zs i j s0).2.set (i + j) (y1 + x))) := by rw [← hw6, ← HM1.out]; exact E8a.out.set (i + j) (y1 + x)
                have F1 : Hid (Blk w6 g1 (allB os n).toArray 4) := by rw [← hw6]; exact E1a.out.other (fun e => M18.out e.symm) _
                have F2 : Hid (Blk w6 g2 (allB zs n).toArray 4) := by rw [← hw6]; exact E2a.out.other (fun e => M28.out e.symm) _
                have FB : Hid (Below w.heap.size w w6) := by rw [← hw6]; exact EBa.out.setCell Q8.out _
                have k6 : w6.cell? ⟨g7, i, none⟩ = some (.string sx) := by
                  refine (F7.out.cell (by rw [TBJ.out.1.l1]; exact IL.out)).trans ?_
                  rw [TBJ.out.2, HX.out, HSX.out]
                have t6 : w6.cell? ⟨g7, i + j, none⟩ = some (.string u2) := by
                  refine (F7.out.cell (by rw [TBJ.out.1.l1]; have := HLT.out; omega)).trans ?_
                  rw [HY2.out, HU2.out]
                rw [hw6]
                clear hw6 c1s fza tca ew t1 t2 k0
                have ew : IntKind.i64.wrap ((i : Int) + (j : Int)) = (i : Int) + (j : Int) := by rw [IntWalk.i64_in _ ⟨by omega, by omega⟩]
                have et : ((i : Int) + (j : Int)).toNat = i + j := by omega
                refine held_lasts 15 2 [0, 1, 2, 3, 4, 5, 6, 7, 8, 9, 10, 11, 12, 13] 1 (fun W' => W'.cell? ⟨g7, i + j, none⟩ = some (.string u2) ∧ W'.cell? ⟨g7, i, none⟩ = some (.string sx)) (by kernel_rfl) rfl (by kernel_rfl) (by kernel_rfl) (by kernel_rfl) (by kernel_rfl) ⟨t6, k6⟩ ?_
                iterate 14
                  refine ⟨_, rfl, ?_⟩
                  apply Exists.intro
                  refine ⟨.inl ⟨by rfl, ?_⟩, ?_⟩
                  · (intro W' hW'; obtain ⟨r1, r2⟩ := hW'; go_simp; try (with_reducible rfl))
                  (dsimp only [Act.put]; try simp only [List.setIfInBounds_toArray, List.set_cons_zero, List.set_cons_succ])
                refine held_one (i := 14) (by kernel_rfl) (by rfl) (by rfl) ?_
                go_wp2_with fail
                refine (P2 _ (HL.out.below FB.out.drew HLL.out)).out.mono ?_; rintro e w7 ⟨rfl, hbc⟩
                have Cb := hid (show Below w6.heap.size w6 w7 from (Below.refl _ _).drew.trans hbc)
                have E7b := hid (F7.out.call Cb.out); have E8b := hid (F8.out.call Cb.out); have E1b := hid (F1.out.call Cb.out); have E2b := hid (F2.out.call Cb.out); have EBb := hid (FB.out.trans (Cb.out.mono FB.out.size))
                have tcb := (Cb.out.cell (cell_lt t6)).trans t6
                have kcb := (Cb.out.cell (cell_lt k6)).trans k6
                clear hbc
                go_wp2_with fail
                refine ⟨⟨tcb, kcb⟩, ?_⟩
                refine wpAnyH_done (by kernel_rfl) ?_ _
                simp only [Only, ThenL, List.drop_succ_cons, List.drop_zero]
                have fzb := E7b.out.free (i + j)
                clear kcb
                go_wp2_with fail
                try simp only [Only]
                go_roundw
                case rel =>
                  refine ⟨j + 1, by go_num, by have := HLT.out; omega, ?_, ?_, E1b.out.other (fun e => M17.out e.symm) _, E2b.out.other (fun e => M27.out e.symm) _, EBb.out.setCell Q7.out _⟩
                  · show NRowT _ _ _
                    rw [hstep.out, addAt_true, HY2.out, ← HM2.out]
                    exact E7b.out.set (i + j) (y2 + x)
                  · show NRowT _ _ _
                    rw [hstep.out, addAt_true, addAt_true, HY1.out]
                    exact E8b.out.other (fun e => NE.out e) _
                case measure => simp [intOf] <;> (have := HLT.out; omega)
          · have q2 : decide ((i : Int) + (j : Int) ≤ (n : Int)) = false := by simp; omega
            have e1 : j = n + 1 - i := by omega
            have f7 : (j : Int) ≤ 1001 := by have := HN.out; omega
            have f5 : (0 : Int) ≤ (j : Int) := by omega
            subst e1
            clear hj hlt
            go_wp2_with fail
            go_roundw
            case rel => exact ⟨i + 1, by go_num, by have := IL.out; omega, by rw [hnext.out]; exact hg7, by rw [hnext.out]; exact hg8, hg1, hg2, hB⟩
            case measure => simp [intOf] <;> (have := IL.out; omega)
    · have q0 : decide ((i : Int) < ((n + 1 : Nat) : Int)) = false := by simp; omega
      have e1 : i = n + 1 := by omega
      subst e1
      go_wp2_with fail
      go_ret
      exact ⟨⟨g8, rfl, Q8.out, by rw [HOS.out, HZS.out]; exact hg8.out⟩, hB.out⟩
end Go.Proofs.YtccalhlhdiapiaaGreatDoor
namespace Go.Proofs.YtccalhlhdiapiaaGreatDoor
open Go.RowKit Go.Shelf
open Go.Lib (decDigits nDigits)
set_option linter.unusedVariables false
set_option linter.unusedSimpArgs false
/-- A row as a value. -/
def rowV (n g : Nat) : Value := .slice (some ⟨g, 0, none⟩) (n + 1) (n + 1)
/-- Block gt is a table of rows that can be read. -/
structure TabR (W : World) (gt n : Nat) (f : Nat → List Nat) : Prop where
  len : ∀ i, i ≤ n → (f i).length = n + 1
  ex : ∃ g c, n + 1 ≤ c ∧ c ≤ 9223372036854775807 ∧ W.cell? ⟨gt, 0, none⟩ = some (.slice (some ⟨g, 0, none⟩) (n + 1) c) ∧ W.cell? ⟨gt, 1, none⟩ = some (.string ⟨#[48]⟩) ∧ ∀ i, i ≤ n → ∃ gr, W.cell? ⟨g, i, none⟩ = some (rowV n gr) ∧ NRowT W gr (f i)
theorem TabR.call {W W' : World} {gt n : Nat} {f : Nat → List Nat} (h : TabR W gt n f) (hb : Below W.heap.size W W') : TabR W' gt n f := by
  obtain ⟨h0, g, c, h1, h2, h3, h4, h5⟩ := h
  refine ⟨h0, g, c, h1, h2, (hb.cell (cell_lt h3)).trans h3, (hb.cell (cell_lt h4)).trans h4, fun i hi => ?_⟩
  obtain ⟨gr, k1, k2⟩ := h5 i hi
  exact ⟨gr, (hb.cell (cell_lt k1)).trans k1, k2.call hb⟩
set_option maxRecDepth 100000 in
set_option maxHeartbeats 1000000 in
theorem tb_at (w : World) (gt n i k : Nat) (f : Nat → List Nat) (h : TabR w gt n f) (hi : i ≤ n) (hk : k ≤ n) (hn : n ≤ 100000) :
    Calls Tryz.prog 122 #[.pointer (some ⟨gt, 0, none⟩), .int .i64 (i : Nat), .int .i64 (k : Nat)] w fun e w' => e = .returned (.string (numB ((f i).getD k 0))) ∧ w = w' := by
  obtain ⟨h0, g, c, h1, h2, r0, r1, h5⟩ := h
  obtain ⟨gr, r2, k2⟩ := h5 i hi
  have r3 := k2.cell (i := k) (by rw [h0 i hi]; omega)
  unfold rowV at r2
  obtain ⟨X, hX⟩ : ∃ s, numB ((f i).getD k 0) = s := ⟨_, rfl⟩
  rw [hX] at r3 ⊢
  have b1 : (0 : Int) ≤ (i : Int) := by omega
  have b2 : (i : Int) < ((n + 1 : Nat) : Int) := by omega
  have b3 : (0 : Int) ≤ (k : Int) := by omega
  have b4 : (k : Int) < ((n + 1 : Nat) : Int) := by omega
  obtain ⟨m, hm⟩ : ∃ m, n + 1 = m := ⟨_, rfl⟩
  rw [hm] at r0 r2 b2 b4 h1
  have t1 : decide ((i : Int) < 0) = false := by simp
  have t2 : decide (m ≤ i) = false := by simp; omega
  have t3 : decide ((k : Int) < 0) = false := by simp
  have t4 : decide (m ≤ k) = false := by simp; omega
  clear h0 h5 k2 hX hi hk hn hm
  go_enter Tryz.func122, Tryz.ntmps122
  go_wp2_with fail
  go_ret
  exact ⟨rfl, rfl⟩
/-- A table of the call's own, with rows gs, of which those below r are laid. -/
structure TabO (W : World) (H gt : Nat) (rv : Value) (gs : List Nat) (n r : Nat) (f : Nat → List Nat) : Prop where
  blk : Blk W gt #[rv, .string ⟨#[48]⟩] 139
  own : W.ownsRow H 50 1 rv gs.length (gs.map (rowV n))
  rows : ∀ i g, i < r → gs[i]? = some g → NRowT W g (f i)
  ne : rv.ownBlock ≠ some gt
  sep : ∀ i g, i < r → gs[i]? = some g → rv.ownBlock ≠ some g
  gne : ∀ i g, i < r → gs[i]? = some g → g ≠ gt
theorem NRowT.lt' {w : World} {g : Nat} {l : List Nat} (h : NRowT w g l) : g < w.heap.size := Blk.lt h
theorem owns_set {W : World} {H : Nat} {e : TypeId} {rv : Value} {n : Nat} {xs : List Value} (h : W.ownsRow H e 1 rv n xs) {a : Addr} (h2 : rv.ownBlock ≠ some a.block) (v : Value) : (W.setCell a v).ownsRow H e 1 rv n xs := by
  refine ⟨h.1, ?_⟩
  rcases h.2 with h0 | ⟨g, cap, cur, rfl, k1, k2, k3⟩
  · exact .inl h0
  · refine .inr ⟨g, cap, cur, rfl, k1, ?_, k3⟩
    have hg : g ≠ a.block := fun e => h2 (by rw [← e]; rfl)
    rw [← k2]
    unfold World.setCell
    simp [Array.getElem?_modify, Ne.symm hg]
theorem TabO.call {W W' : World} {H gt : Nat} {rv : Value} {gs : List Nat} {n r : Nat} {f : Nat → List Nat} (h : TabO W H gt rv gs n r f) (hb : Below W.heap.size W W') : TabO W' H gt rv gs n r f :=
  ⟨h.blk.call hb, owns_call h.own hb, fun i g hi hg => (h.rows i g hi hg).call hb, h.ne, h.sep, h.gne⟩
/-- A write elsewhere. -/
theorem TabO.other {W : World} {H gt : Nat} {rv : Value} {gs : List Nat} {n r : Nat} {f : Nat → List Nat} (h : TabO W H gt rv gs n r f) {a : Addr} (h1 : a.block ≠ gt) (h2 : rv.ownBlock ≠ some a.block) (h3 : ∀ i g, i < r → gs[i]? = some g → a.block ≠ g) (v : Value) : TabO (W.setCell a v) H gt rv gs n r f := by
  exact ⟨h.blk.other h1 v, owns_set h.own h2 v, fun i g hi hg => (h.rows i g hi hg).other (h3 i g hi hg) v, h.ne, h.sep, h.gne⟩
/-- All old blocks but the table and its rows' are as they were. -/
structure KpR (gt : Nat) (rb : Option Nat) (W W' : World) : Prop where
  os : W'.os = W.os
  tape : W'.tape = W.tape
  output : W'.output = W.output
  size : W.heap.size ≤ W'.heap.size
  block : ∀ i, i < W.heap.size → i ≠ gt → some i ≠ rb → W'.heap[i]? = W.heap[i]?
theorem TabO.drew {W : World} {H gt : Nat} {rv : Value} {gs : List Nat} {n r : Nat} {f : Nat → List Nat} (h : TabO W H gt rv gs n r f) : TabO W.drew H gt rv gs n r f := ⟨h.blk, h.own, h.rows, h.ne, h.sep, h.gne⟩
theorem KpR.drew {gt : Nat} {rb : Option Nat} {W W' : World} (h : KpR gt rb W W') : KpR gt rb W W'.drew := ⟨h.os, h.tape, h.output, h.size, h.block⟩
theorem info_nums : (Tryz.prog.info? 50).map (fun i => (i.zero, i.size, i.bytes)) = some (some (.slice none 0 0), 1, 24) := by kernel_rfl
set_option maxRecDepth 100000 in
set_option maxHeartbeats 4000000 in
theorem tb_row (w : World) (H gt : Nat) (rv : Value) (gs : List Nat) (n r : Nat) (f : Nat → List Nat) (h : TabO w H gt rv gs n r f) (hr : r ≤ gs.length) (hgs : gs.length ≤ 1000) (hn : n ≤ 1000) (hH : H ≤ w.heap.size) :
    Calls Tryz.prog 167 #[.pointer (some ⟨gt, 0, none⟩), .int .i64 ((n + 1 : Nat) : Int)] w fun e w' => ∃ g rv', e = .returned (rowV n g) ∧ w.heap.size ≤ g ∧ NRowT w' g (List.replicate (n + 1) 0) ∧ TabO w' H gt rv' (gs ++ [g]) n r f ∧ rv'.ownBlock ≠ some g ∧ (rv'.ownBlock = rv.ownBlock ∨ ∃ b, rv'.ownBlock = some b ∧ w.heap.size ≤ b) ∧ KpR gt rv.ownBlock w w' := by
  obtain ⟨i0, hi, hz0, hz1, hz2⟩ := info_parts info_nums
  have HR := fun V g h => hid (s_Repeat V g (n + 1) ⟨#[48]⟩ (by omega) (by omega) h)
  have hgt : gt < w.heap.size := h.blk.lt
  have r0 := h.blk.cell 0
  have r1 := h.blk.cell 1
  simp at r0 r1
  have T0 := hid h
  have HGT := hid hgt; have HHS := hid hH; have HGS := hid hgs; have HRL := hid hr
  obtain ⟨ar, cr, hrv⟩ := owns_ex h.own
  obtain ⟨L, hL⟩ : ∃ L, gs.length = L := ⟨_, rfl⟩
  have HLL := hid hL
  obtain ⟨m, hm⟩ : ∃ m, n + 1 = m := ⟨_, rfl⟩
  have HM := hid hm
  have KK : Hid (∀ W, Below w.heap.size w W → W.cell? ⟨gt, 0, none⟩ = some rv ∧ W.cell? ⟨gt, 1, none⟩ = some (.string ⟨#[48]⟩)) := fun W hW => ⟨(hW.cell (cell_lt r0)).trans r0, (hW.cell (cell_lt r1)).trans r1⟩
  rw [hm] at HR ⊢
  have HRV := hid hrv
  clear h hgt hH hgs hr hL hm hrv hn
  go_enter Tryz.func167, Tryz.ntmps167
  go_wp2_with fail
  refine held_lasts 14 3 [0, 1, 2, 3, 4, 5, 6, 7, 8, 10] 4 (fun W' => W'.cell? ⟨gt, 0, none⟩ = some rv ∧ W'.cell? ⟨gt, 1, none⟩ = some (.string ⟨#[48]⟩)) (by kernel_rfl) rfl (by kernel_rfl) (by kernel_rfl) (by kernel_rfl) (by kernel_rfl) (KK.out _ (Below.refl _ _).drew) ?_
  iterate 10
    refine ⟨_, rfl, ?_⟩
    apply Exists.intro
    refine ⟨.inl ⟨by rfl, ?_⟩, ?_⟩
    · (intro W' hW'; obtain ⟨q1, q2⟩ := hW'; go_simp; try (with_reducible rfl))
    (dsimp only [Act.put]; try simp only [List.setIfInBounds_toArray, List.set_cons_zero, List.set_cons_succ])
  refine held_one (i := 9) (by kernel_rfl) (by rfl) (by rfl) ?_
  go_wp2_with fail
  have A1 := hid (show Below w.heap.size w (w.alloc (.cells #[.string ⟨#[48]⟩] 22)).drew from ((Below.refl _ _).alloc (Nat.le_refl _) _).drew)
  have C1 : (w.alloc (.cells #[.string ⟨#[48]⟩] 22)).drew.cell? ⟨w.heap.size, 0, none⟩ = some (.string ⟨#[48]⟩) := (Blk.new w #[.string ⟨#[48]⟩] 22).cell 0
  refine ⟨KK.out _ A1.out, ?_⟩
  refine held_one (i := 11) (by kernel_rfl) (by rfl) (by rfl) ?_
  go_wp2_with fail
  refine (HR _ _ C1).out.mono ?_; rintro e w2 ⟨rfl, hg, hb⟩
  obtain ⟨g, hgg⟩ : ∃ g, (w.alloc (.cells #[.string ⟨#[48]⟩] 22)).drew.heap.size = g := ⟨_, rfl⟩
  have B2 := hid (bnext A1.out hb)
  rw [hgg] at hg ⊢
  have HG : Hid (w.heap.size < g) := by rw [← hgg]; show _ < _; simp
  have R2 := hid (NRowT.zeros hg)
  have L2 := hid (show g < w2.heap.size from hg.lt)
  clear hg hb hgg C1
  go_wp2_with fail
  refine ⟨KK.out _ B2.out, ?_⟩
  refine held_one (i := 12) (by kernel_rfl) (by rfl) (by rfl) ?_
  go_wp2_with fail
  have A3 := hid (show Below w.heap.size w (w2.alloc (.cells #[.slice (some ⟨g, 0, none⟩) m m] 50)) from B2.out.alloc B2.out.size _)
  refine ⟨KK.out _ A3.out, ?_⟩
  refine held_one (i := 13) (by kernel_rfl) (by rfl) (by rfl) ?_
  have O3 := hid (((T0.out.call B2.out).own).alloc (.cells #[.slice (some ⟨g, 0, none⟩) m m] 50))
  refine wpList_append_own_at _ rfl _ _ 137 rfl H 50 i0 (.slice none 0 0) 1 24 Tryz.underlying137 hi hz0 hz1 hz2 rfl (by decide) rv gs.length (gs.map (rowV n)) rfl O3.out ⟨w2.heap.size, 0, none⟩ 1 1 [.slice (some ⟨g, 0, none⟩) m m] rfl rfl (cell_one_new w2 (.slice (some ⟨g, 0, none⟩) m m) 50) (by simp [Value.oneCell']) (by have := HGS.out; unfold maxLen; omega) (by have := HGS.out; omega) (by have := HHS.out; have := B2.out.size; simp; omega) ?_
  intro rv' w3 hown3 hgrow3 _ hat3
  have hat4 : rv'.ownBlock = rv.ownBlock ∨ rv'.ownBlock = some (w2.heap.size + 1) := by simpa using hat3
  have OW := hid hown3; have GR := hid hgrow3; have AT := hid hat4
  clear hown3 hgrow3 hat3 hat4
  have c30 : w3.cell? ⟨gt, 0, none⟩ = some rv := by
    have := GR.out.cell (KK.out _ A3.out).1 (fun e => T0.out.ne e.symm)
    exact this
  have c31 : w3.cell? ⟨gt, 1, none⟩ = some (.string ⟨#[48]⟩) := GR.out.cell (KK.out _ A3.out).2 (fun e => T0.out.ne e.symm)
  have X3 : Hid (Blk w3 gt #[rv, .string ⟨#[48]⟩] 139) := ((T0.out.blk.call B2.out).alloc _).grown GR.out (fun e => T0.out.ne e)
  go_wp2_with fail
  refine ⟨⟨c30, c31⟩, ?_⟩
  refine wpAnyH_done (by kernel_rfl) ?_ _
  simp only [Only, ThenL, List.drop_succ_cons, List.drop_zero]
  have f3 := X3.out.free 0
  have NE3 : Hid (rv'.ownBlock ≠ some gt) := by
    rcases AT.out with e | e
    · show rv'.ownBlock ≠ some gt
      rw [e]; exact T0.out.ne
    · show rv'.ownBlock ≠ some gt
      rw [e]; intro hh; have := Option.some.inj hh; have := HGT.out; have := B2.out.size; omega
  have NEG : Hid (rv'.ownBlock ≠ some g) := by
    rcases AT.out with e | e
    · show rv'.ownBlock ≠ some g
      rw [e]; intro hh; have := (T0.out.own.lt g hh).2; have := HG.out; omega
    · show rv'.ownBlock ≠ some g
      rw [e]; intro hh; have := Option.some.inj hh; have := L2.out; omega
  have AT2 : Hid (rv'.ownBlock = rv.ownBlock ∨ ∃ b, rv'.ownBlock = some b ∧ w.heap.size ≤ b) := AT.out.imp id fun e => ⟨_, e, Nat.le_succ_of_le B2.out.size⟩
  have KP : Hid (KpR gt rv.ownBlock w w3) := ⟨GR.out.os.trans A3.out.os, GR.out.tape.trans A3.out.tape, GR.out.output.trans A3.out.output, Nat.le_trans A3.out.size GR.out.size, fun i hi _ h2 => (GR.out.block i (by have := A3.out.size; omega) h2).trans (A3.out.block i hi)⟩
  have N3 : Hid (NRowT w3 g (List.replicate m 0)) := Blk.grown (Blk.alloc R2.out _) GR.out (fun e => by have := (T0.out.own.lt g e).2; have := HG.out; omega)
  have RO : Hid (∀ i g', i < r → gs[i]? = some g' → NRowT w3 g' (f i)) := fun i g' hi2 hg' => Blk.grown (Blk.alloc ((T0.out.rows i g' hi2 hg').call B2.out) _) GR.out (T0.out.sep i g' hi2 hg')
  have GSR : Hid (∀ i g', i < r → gs[i]? = some g' → g' ≠ gt) := fun i g' hi2 hg' => T0.out.gne i g' hi2 hg'
  obtain ⟨gr, cap, rfl⟩ := ownsRow_succ OW.out
  have HGR : Hid (gr ≠ gt) := fun e => NE3.out (by rw [e]; rfl)
  go_wp2_with fail
  try simp only [Only]
  obtain ⟨w4, hw4⟩ : ∃ W, w3.setCell ⟨gt, 0, none⟩ (.slice (some ⟨gr, 0, none⟩) (gs.length + 1) cap) = W := ⟨_, rfl⟩
  have T4 : Hid (TabO w4 H gt (.slice (some ⟨gr, 0, none⟩) (gs.length + 1) cap) (gs ++ [g]) n r f) := by
    refine ⟨?_, ?_, fun i g' hi2 hg' => ?_, NE3.out, ?_, ?_⟩
    · rw [← hw4]; exact X3.out.set 0 _
    · rw [← hw4, List.length_append, List.map_append]
      have hl : (gs.map (rowV n) ++ [Value.slice (some ⟨g, 0, none⟩) m m]) = gs.map (rowV n) ++ [g].map (rowV n) := by rw [← HM.out]; rfl
      rw [← hl]
      exact owns_set OW.out (fun e => HGR.out (by simpa [Value.ownBlock] using e)) _
    · have hlt : i < gs.length := Nat.lt_of_lt_of_le hi2 HRL.out
      rw [List.getElem?_append_left hlt] at hg'
      rw [← hw4]
      exact (RO.out i g' hi2 hg').other (GSR.out i g' hi2 hg').symm _
    · intro i g' hi2 hg'
      have hlt : i < gs.length := Nat.lt_of_lt_of_le hi2 HRL.out
      rw [List.getElem?_append_left hlt] at hg'
      rcases AT.out with e | e
      · rw [e]; exact T0.out.sep i g' hi2 hg'
      · rw [e]; intro hh; have := Option.some.inj hh; have := (T0.out.rows i g' hi2 hg').lt'; have := B2.out.size; omega
    · intro i g' hi2 hg'
      have hlt : i < gs.length := Nat.lt_of_lt_of_le hi2 HRL.out
      rw [List.getElem?_append_left hlt] at hg'
      exact T0.out.gne i g' hi2 hg'
  have N4 : Hid (NRowT w4 g (List.replicate m 0)) := by rw [← hw4]; exact N3.out.other (by have := HG.out; have := HGT.out; show gt ≠ g; omega) _
  have K4 : Hid (KpR gt rv.ownBlock w w4) := by
    rw [← hw4]
    refine ⟨KP.out.os, KP.out.tape, KP.out.output, by simpa [World.setCell] using KP.out.size, fun i hi h1 h2 => ?_⟩
    rw [← KP.out.block i hi h1 h2]
    unfold World.setCell
    simp [Array.getElem?_modify, Ne.symm h1]
  rw [hw4]
  have s0 := T4.out.blk.cell 0
  simp at s0
  have s1 : w4.cell? ⟨gr, gs.length, none⟩ = some (.slice (some ⟨g, 0, none⟩) m m) := by
    obtain ⟨g', o', e1, -, e2⟩ := (Row.of_owns T4.out.own).at (i := gs.length) (x := rowV n g) (by rw [List.map_append, List.getElem?_append_right (by simp)]; simp)
    simp only [Option.some.injEq, Addr.mk.injEq] at e1
    obtain ⟨rfl, rfl, -⟩ := e1
    rw [Nat.zero_add] at e2
    rw [e2, rowV, HM.out]
  have wl : IntKind.i64.wrap (((gs.length + 1 : Nat) : Int) - 1) = (gs.length : Int) := by rw [IntWalk.i64_in _ ⟨by omega, by have := HGS.out; omega⟩]; omega
  have wl2 : IntKind.i64.wrap ((gs.length : Int) + 1 - 1) = (gs.length : Int) := by rw [IntWalk.i64_in _ ⟨by omega, by have := HGS.out; omega⟩]; omega
  have b1 : (0 : Int) ≤ (gs.length : Int) := by omega
  have b2 : (gs.length : Int) < ((gs.length + 1 : Nat) : Int) := by omega
  have wl3 : IntKind.i64.wrap (gs.length : Int) = (gs.length : Int) := by rw [IntWalk.i64_in _ ⟨by omega, by have := HGS.out; omega⟩]
  have b3 : (gs.length : Int) < (gs.length : Int) + 1 := by omega
  clear hw4 c30 c31 f3
  refine held_plain [0, 1, 2, 3, 4, 5, 6, 7, 8, 9, 10, 11, 12] 0 (fun W' => W'.cell? ⟨gt, 0, none⟩ = some (.slice (some ⟨gr, 0, none⟩) (gs.length + 1) cap) ∧ W'.cell? ⟨gr, gs.length, none⟩ = some (.slice (some ⟨g, 0, none⟩) m m)) (by kernel_rfl) (by kernel_rfl) (by kernel_rfl) (by kernel_rfl) ⟨s0, s1⟩ ?_
  iterate 13
    refine ⟨_, rfl, ?_⟩
    apply Exists.intro
    refine ⟨.inl ⟨by rfl, ?_⟩, ?_⟩
    · (intro W' hW'; obtain ⟨q3, q4⟩ := hW'; go_simp; try (with_reducible rfl))
    (dsimp only [Act.put]; try simp only [List.setIfInBounds_toArray, List.set_cons_zero, List.set_cons_succ])
  refine wpAnyH_done (by kernel_rfl) ?_ _
  simp only [Only]
  go_wp2_with fail
  go_ret
  refine ⟨g, _, by rw [rowV, HM.out]; rfl, Nat.le_of_lt HG.out, N4.out, T4.out.drew, NEG.out, AT2.out, K4.out.drew⟩
end Go.Proofs.YtccalhlhdiapiaaGreatDoor
namespace Go.Proofs.YtccalhlhdiapiaaGreatDoor
open Go.RowKit Go.Shelf
open Go.Lib (decDigits nDigits)
set_option linter.unusedVariables false
set_option linter.unusedSimpArgs false
/-- What a round of ends holds: the table, the row that is read, the two that are written, the coin's sides. -/
structure EnS (W : World) (gt gO gN gD g1 g2 n r : Nat) (rv : Value) (gs : List Nat) (O nx dn : List Nat) (os zs : Nat → Bool) (f : Nat → List Nat) : Prop where
  tab : TabO W (gt + 1) gt rv (gs ++ [gD]) n r f
  o : NRowT W gO O
  nx : NRowT W gN nx
  dn : NRowT W gD dn
  b1 : Blk W g1 (allB os n).toArray 4
  b2 : Blk W g2 (allB zs n).toArray 4
/-- The blocks are different ones. -/
structure EnD (gt gO gN gD g1 g2 r : Nat) (rv : Value) (gs : List Nat) : Prop where
  tN : gN ≠ gt
  tD : gD ≠ gt
  rN : rv.ownBlock ≠ some gN
  rD : rv.ownBlock ≠ some gD
  ND : gN ≠ gD
  oN : gO ≠ gN
  oD : gO ≠ gD
  n1 : gN ≠ g1
  n2 : gN ≠ g2
  d1 : gD ≠ g1
  d2 : gD ≠ g2
  sN : ∀ i g, i < r → (gs ++ [gD])[i]? = some g → gN ≠ g
  sD : ∀ i g, i < r → (gs ++ [gD])[i]? = some g → gD ≠ g
theorem EnS.call {W W' : World} {gt gO gN gD g1 g2 n r : Nat} {rv : Value} {gs : List Nat} {O nx dn : List Nat} {os zs : Nat → Bool} {f : Nat → List Nat} (h : EnS W gt gO gN gD g1 g2 n r rv gs O nx dn os zs f) (hb : Below W.heap.size W W') : EnS W' gt gO gN gD g1 g2 n r rv gs O nx dn os zs f :=
  ⟨h.tab.call hb, h.o.call hb, h.nx.call hb, h.dn.call hb, h.b1.call hb, h.b2.call hb⟩
theorem EnS.setN {W : World} {gt gO gN gD g1 g2 n r : Nat} {rv : Value} {gs : List Nat} {O nx dn : List Nat} {os zs : Nat → Bool} {f : Nat → List Nat} (h : EnS W gt gO gN gD g1 g2 n r rv gs O nx dn os zs f) (d : EnD gt gO gN gD g1 g2 r rv gs) (i x : Nat) : EnS (W.setCell ⟨gN, i, none⟩ (.string (numB x))) gt gO gN gD g1 g2 n r rv gs O (nx.set i x) dn os zs f :=
  ⟨h.tab.other d.tN d.rN d.sN _, h.o.other d.oN.symm _, h.nx.set i x, h.dn.other d.ND _, h.b1.other d.n1 _, h.b2.other d.n2 _⟩
theorem EnS.setD {W : World} {gt gO gN gD g1 g2 n r : Nat} {rv : Value} {gs : List Nat} {O nx dn : List Nat} {os zs : Nat → Bool} {f : Nat → List Nat} (h : EnS W gt gO gN gD g1 g2 n r rv gs O nx dn os zs f) (d : EnD gt gO gN gD g1 g2 r rv gs) (i x : Nat) : EnS (W.setCell ⟨gD, i, none⟩ (.string (numB x))) gt gO gN gD g1 g2 n r rv gs O nx (dn.set i x) os zs f :=
  ⟨h.tab.other d.tD d.rD d.sD _, h.o.other d.oD.symm _, h.nx.other d.ND.symm _, h.dn.set i x, h.b1.other d.d1 _, h.b2.other d.d2 _⟩
theorem pass_bd {c : Nat → Bool} {N D n r : Nat} {F : Nat → Nat} (hn : n ≤ 32) (hr : r ≤ 32) (hF : aOut c (opnL N D n r) n (n + 1) = fnL F n) (hB : ∀ s, s ≤ n → F s ≤ 2 ^ (6 * (r + 1))) {i j k : Nat} (hi : i ≤ n) (hij : i + j ≤ n + 1) (hk : k ≤ n) : (aIn c ((opnL N D n r).getD i 0) i j (aOut c (opnL N D n r) n i)).getD k 0 ≤ 2 ^ 200 := by
  refine Nat.le_trans (aIn_le hi hij hk) ?_
  rw [hF, fnL_get hk]
  exact Nat.le_trans (hB k hk) (Nat.pow_le_pow_right (by omega) (by omega))
/-- What ends gives back. -/
def EndsOut (w : World) (n N D : Nat) (e : Ending) (w' : World) : Prop := ∃ gt, e = .returned (.pointer (some ⟨gt, 0, none⟩)) ∧ w.heap.size ≤ gt ∧ TabR w' gt n (ednL N D n)
theorem blk_keep {w w' : World} {g : Nat} {cs : Array Value} {t : TypeId} (h : Blk w g cs t) (e : w'.heap[g]? = w.heap[g]?) : Blk w' g cs t := e.trans h
theorem tabR_of {W : World} {H gt : Nat} {rv : Value} {gs : List Nat} {n : Nat} {f : Nat → List Nat} (h : TabO W H gt rv gs n (n + 1) f) (hl : gs.length = n + 1) (hf : ∀ i, (f i).length = n + 1) (hn : n ≤ 1000) : TabR W gt n f := by
  obtain ⟨g, cap, rfl⟩ : ∃ g c, rv = .slice (some ⟨g, 0, none⟩) (n + 1) c := by
    have := h.own
    rw [hl] at this
    exact ownsRow_succ this
  obtain ⟨a, c, e, h1, h2, h3⟩ := (Row.of_owns h.own).ex
  simp only [Value.slice.injEq] at e
  obtain ⟨rfl, -, rfl⟩ := e
  rw [List.length_map, hl] at h1
  have c0 := h.blk.cell 0
  have c1 := h.blk.cell 1
  simp at c0 c1
  refine ⟨fun i _ => hf i, g, cap, h1, by unfold maxLen at h2; omega, c0, c1, fun i hi => ?_⟩
  obtain ⟨gr, hgr⟩ : ∃ g, gs[i]? = some g := ⟨_, List.getElem?_eq_getElem (by omega)⟩
  obtain ⟨g', o', e1, -, e2⟩ := h3 i (rowV n gr) (by rw [List.getElem?_map, hgr]; rfl)
  simp only [Option.some.injEq, Addr.mk.injEq] at e1
  obtain ⟨rfl, rfl, -⟩ := e1
  rw [Nat.zero_add] at e2
  exact ⟨gr, e2, h.rows i gr (by omega) hgr⟩
set_option maxRecDepth 100000 in
set_option maxHeartbeats 8000000 in
theorem g_ends (w : World) (a : ByteArray) (n N D : Nat) (ha : a.size ≤ 100000) (he : gPE a = 0) (hn : n ≤ 32) (hN : bN (cW a) = N) (hD : bN (qD a) = D) (hND : N < D) (hL : Lay w) :
    Calls Tryz.prog 121 #[.string a, .int .i64 n] w fun e w' => EndsOut w n N D e w' ∧ Below w.heap.size w w' := by
  have HS := hid (g_sides w a n N D ha he (by omega) hN hD hND hL)
  have HR := fun V g h => hid (s_Repeat V g (n + 1) ⟨#[48]⟩ (by omega) (by omega) h)
  have HTR := fun V gt rv gs r f (h : TabO V (gt + 1) gt rv gs n r f) (h1 : r ≤ gs.length) (h2 : gs.length ≤ 1000) (h3 : gt + 1 ≤ V.heap.size) => hid (tb_row V (gt + 1) gt rv gs n r f h h1 h2 (by omega) h3)
  have HL := hid hL; have HLL := hid hL.lt; have HN := hid hn
  have wn : IntKind.i64.wrap ((n : Int) + 1) = ((n + 1 : Nat) : Int) := by rw [IntWalk.i64_in _ ⟨by omega, by omega⟩]; omega
  have NX : Hid (∀ r, aOut (oneJ N D) (opnL N D n r) n (n + 1) = opnL N D n (r + 1)) := fun r => opnL_succ N D n r
  have DN : Hid (∀ r, aOut (zeroJ N D) (opnL N D n r) n (n + 1) = ednL N D n r) := fun r => ednL_is N D n r
  have BN : Hid (∀ r i j k, r ≤ n → i ≤ n → i + j ≤ n + 1 → k ≤ n → (aIn (oneJ N D) ((opnL N D n r).getD i 0) i j (aOut (oneJ N D) (opnL N D n r) n i)).getD k 0 ≤ 2 ^ 200) := fun r i j k h1 h2 h3 h4 => pass_bd (F := opn N D (r + 1)) hn (by omega) (opnL_succ N D n r) (fun s hs => opn_bd hn (r + 1) s hs) h2 h3 h4
  have BD : Hid (∀ r i j k, r ≤ n → i ≤ n → i + j ≤ n + 1 → k ≤ n → (aIn (zeroJ N D) ((opnL N D n r).getD i 0) i j (aOut (zeroJ N D) (opnL N D n r) n i)).getD k 0 ≤ 2 ^ 200) := fun r i j k h1 h2 h3 h4 => pass_bd (F := edn N D r) hn (by omega) (ednL_is N D n r) (fun s hs => edn_bd hn r s hs) h2 h3 h4
  have BO : Hid (∀ r i, r ≤ n → i ≤ n → (opnL N D n r).getD i 0 ≤ 2 ^ 200) := fun r i h1 h2 => by
    unfold opnL
    rw [fnL_get h2]
    exact Nat.le_trans (opn_bd hn r i h2) (Nat.pow_le_pow_right (by omega) (by omega))
  have OZ : Hid ((List.replicate (n + 1) 0).set 0 1 = opnL N D n 0) := opnL_zero N D n
  have OL : Hid (∀ r, (opnL N D n r).length = n + 1) := fun r => fnL_length _ _
  obtain ⟨OF, hOF⟩ : ∃ F, opnL N D n = F := ⟨_, rfl⟩
  obtain ⟨EF, hEF⟩ : ∃ F, ednL N D n = F := ⟨_, rfl⟩
  obtain ⟨os, hos⟩ : ∃ f, oneJ N D = f := ⟨_, rfl⟩
  obtain ⟨zs, hzs⟩ : ∃ f, zeroJ N D = f := ⟨_, rfl⟩
  rw [hOF] at NX DN BN BD BO OZ OL
  rw [hEF] at DN
  rw [hos] at NX BN
  rw [hzs] at DN BD
  have HOS := hid hos; have HZS := hid hzs; have HEF := hid hEF
  clear ha he hn hN hD hND hL hos hzs hOF hEF
  go_enter Tryz.func121, Tryz.ntmps121
  go_wp2_with fail
  refine HS.out.mono ?_; rintro e w1 ⟨⟨v1, v2, rfl, ⟨g1, g2, rfl, rfl, h3, h4, h5, hg1, hg2⟩⟩, hb1⟩
  rw [HOS.out] at hg1
  rw [HZS.out] at hg2
  have G1 := hid hg1; have G2 := hid hg2; have B1 := hid hb1; have N1 := hid (show g1 < w1.heap.size from Blk.lt hg1); have N2 := hid (show g2 < w1.heap.size from Blk.lt hg2)
  have z1 := hid hb1.size
  clear hg1 hg2 hb1 h3 h4 h5 HS
  go_wp2_with fail
  have T1 := hid (Blk.new w1 #[.slice none 0 0, .string ⟨#[48]⟩] 139)
  have A1 := hid ((Below.refl w1.heap.size w1).alloc (Nat.le_refl _) (.cells #[.slice none 0 0, .string ⟨#[48]⟩] 139))
  obtain ⟨wt, hwt⟩ : ∃ W, w1.alloc (.cells #[.slice none 0 0, .string ⟨#[48]⟩] 139) = W := ⟨_, rfl⟩
  have zt : Hid (wt.heap.size = w1.heap.size + 1) := by show wt.heap.size = _; rw [← hwt]; simp
  rw [hwt] at T1 A1 ⊢
  obtain ⟨gt, hgt⟩ : ∃ g, w1.heap.size = g := ⟨_, rfl⟩
  have HGT := hid hgt
  have T1' : Hid (Blk wt gt #[.slice none 0 0, .string ⟨#[48]⟩] 139) := by show Blk _ _ _ _; rw [← hgt]; exact T1.out
  try rw [hgt]
  clear T1 hwt hgt
  have C0 : (wt.alloc (.cells #[.string ⟨#[48]⟩] 22)).cell? ⟨gt + 1, 0, none⟩ = some (.string ⟨#[48]⟩) := by
    have := (Blk.new wt #[.string ⟨#[48]⟩] 22).cell 0
    rw [show wt.heap.size = gt + 1 by rw [zt.out, HGT.out]] at this
    exact this
  refine (HR _ _ C0).out.mono ?_; rintro e w2 ⟨rfl, hg7, hb2⟩
  clear C0
  obtain ⟨g0, h7⟩ : ∃ g, (wt.alloc (.cells #[.string ⟨#[48]⟩] 22)).heap.size = g := ⟨_, rfl⟩
  rw [h7] at hg7 ⊢
  have R7 := hid (NRowT.zeros hg7)
  have a1 := (Below.refl wt.heap.size wt).alloc (Nat.le_refl _) (.cells #[.string ⟨#[48]⟩] 22)
  have b2 := hid (bnext a1 hb2)
  have K7 := hid (show wt.heap.size < g0 by rw [← h7]; simp)
  have L7 := hid (show g0 < w2.heap.size from Blk.lt hg7)
  have Bt := hid (bnext B1.out A1.out)
  have B2 := hid (bnext Bt.out b2.out)
  have G12 := hid ((G1.out.call A1.out).call b2.out); have G22 := hid ((G2.out.call A1.out).call b2.out)
  have T2 := hid (T1'.out.call b2.out)
  clear hg7 hb2 a1 h7
  have k0 : w2.cell? ⟨g0, 0, none⟩ = some (.string ⟨#[48]⟩) := by
    refine (R7.out.cell (i := 0) (by simp)).trans ?_
    rw [← numB_zero]; simp [List.getD_eq_getElem?_getD]
  have k1 := R7.out.free 0
  have z0 : (0 : Int) < ((n + 1 : Nat) : Int) := by omega
  have z0' : (0 : Int) < (n : Int) + 1 := by omega
  go_wp2_with fail
  obtain ⟨W2, hW2⟩ : ∃ W, w2.setCell ⟨g0, 0, none⟩ (.string ⟨#[49]⟩) = W := ⟨_, rfl⟩
  have S0 : Hid (NRowT W2 g0 (OF 0)) := by
    show NRowT _ _ _
    rw [← hW2, ← numB_one, ← OZ.out]
    exact R7.out.set 0 1
  have S1 : Hid (Blk W2 g1 (allB os n).toArray 4) := by rw [← hW2]; exact G12.out.other (by have := K7.out; have := N1.out; have := zt.out; simp; omega) _
  have S2 : Hid (Blk W2 g2 (allB zs n).toArray 4) := by rw [← hW2]; exact G22.out.other (by have := K7.out; have := N2.out; have := zt.out; simp; omega) _
  have ST : Hid (Blk W2 gt #[.slice none 0 0, .string ⟨#[48]⟩] 139) := by rw [← hW2]; exact T2.out.other (by have := K7.out; have := HGT.out; have := zt.out; simp; omega) _
  have SB : Hid (Below w.heap.size w W2) := by rw [← hW2]; exact B2.out.setCell (by have := K7.out; have := z1.out; have := zt.out; simp; omega) _
  have TO : Hid (TabO W2 (gt + 1) gt (.slice none 0 0) [] n 0 EF) := ⟨ST.out, World.ownsRow_nil _ _ _ _, fun i g hi => absurd hi (by omega), by simp [Value.ownBlock], fun i g hi => absurd hi (by omega), fun i g hi => absurd hi (by omega)⟩
  have D1 : Hid (g1 < gt ∧ g2 < gt ∧ w.heap.size ≤ gt) := ⟨by have := N1.out; have := HGT.out; omega, by have := N2.out; have := HGT.out; omega, by have := z1.out; have := HGT.out; omega⟩
  have D2 : Hid (gt < g0) := by show gt < g0; have := K7.out; have := HGT.out; have := zt.out; omega
  rw [hW2]
  clear hW2 k0 k1 z0 z0' R7 G12 G22 T2 B2 b2 K7 L7 Bt T1' A1 G1 G2 B1 N1 N2 z1 zt HGT ST
  go_loopw [8, 29] (fun oo ii wr => ∃ r gO rv gs, oo = rowV n gO ∧ ii = .int .i64 (r : Nat) ∧ r ≤ n + 1 ∧ Hid (gs.length = r ∧ gt < gO ∧ rv.ownBlock ≠ some gO) ∧ Hid (TabO wr (gt + 1) gt rv gs n r EF) ∧ Hid (NRowT wr gO (OF r)) ∧ Hid (Blk wr g1 (allB os n).toArray 4) ∧ Hid (Blk wr g2 (allB zs n).toArray 4) ∧ Hid (Below w.heap.size w wr)) (fun oo ii wr => n + 1 - (intOf ii).toNat)
  case atStart => exact ⟨0, g0, _, [], rfl, rfl, Nat.zero_le _, ⟨rfl, D2.out, by simp [Value.ownBlock]⟩, TO, S0, S1, S2, SB⟩
  case round =>
    obtain ⟨r, gO, rv, gs, rfl, rfl, hr, hM, hT, hO, hg1, hg2, hB⟩ := hrel
    by_cases hlt : r < n + 1
    · have q0 : decide ((r : Int) < ((n + 1 : Nat) : Int)) = true := by simp; omega
      have dr : decide ((r : Int) < (n : Int) + 1) = true := by simp; omega
      have HR0 := hid hlt
      clear hr hlt
      unfold rowV
      go_wp2_with fail
      refine (HTR _ _ _ _ _ _ hT.out (by have := hM.out.1; omega) (by have := hM.out.1; have := HR0.out; have := HN.out; omega) hT.out.blk.lt).out.mono ?_; rintro e w3 ⟨gD, rv', rfl, hgD, hND, hT3, hne, hat, hK⟩
      simp only [rowV]
      have T3 := hid hT3; have ND3 := hid hND; have NE3 := hid hne
      have zD := hid hgD
      have LD := hid (show gD < w3.heap.size from hND.lt')
      have keep : ∀ b, b < wr.heap.size → b ≠ gt → rv.ownBlock ≠ some b → w3.heap[b]? = wr.heap[b]? := fun b h1 h2 h3 => hK.block b h1 h2 (fun e => h3 e.symm)
      have lO : gO < wr.heap.size := hO.out.lt'
      have l1 : g1 < wr.heap.size := Blk.lt hg1.out
      have l2 : g2 < wr.heap.size := Blk.lt hg2.out
      have rvge : ∀ b, rv.ownBlock = some b → gt + 1 ≤ b := fun b hb => (hT.out.own.lt b hb).1
      have O3 : Hid (NRowT w3 gO (OF r)) := blk_keep hO.out (keep gO lO (by have := hM.out.2.1; omega) hM.out.2.2)
      have G13 : Hid (Blk w3 g1 (allB os n).toArray 4) := blk_keep hg1.out (keep g1 l1 (by have := D1.out.1; omega) (fun e => by have := rvge _ e; have := D1.out.1; omega))
      have G23 : Hid (Blk w3 g2 (allB zs n).toArray 4) := blk_keep hg2.out (keep g2 l2 (by have := D1.out.2.1; omega) (fun e => by have := rvge _ e; have := D1.out.2.1; omega))
      have B3 : Hid (Below w.heap.size w w3) := ⟨hK.os.trans hB.out.os, hK.tape.trans hB.out.tape, hK.output.trans hB.out.output, Nat.le_trans hB.out.size hK.size, fun k hk => by
        have s0 := hB.out.size
        have d := D1.out.2.2
        exact (keep k (by omega) (by omega) (fun e => by have := rvge _ e; omega)).trans (hB.out.block k hk)⟩
      have M3 : Hid (gD ≠ gO ∧ gD ≠ g1 ∧ gD ≠ g2 ∧ gD ≠ gt ∧ rv'.ownBlock ≠ some gO) := by
        refine ⟨by omega, by omega, by omega, by have := hT.out.blk.lt; omega, ?_⟩
        rcases hat with e | ⟨b, e, hb⟩
        · rw [e]; exact hM.out.2.2
        · rw [e]; intro e'; have := Option.some.inj e'; omega
      have SG : Hid (∀ i g, i < r → (gs ++ [gD])[i]? = some g → gD ≠ g ∧ g < w3.heap.size) := fun i g hi hg => by
        have hl := hM.out.1
        have hg' := hg
        rw [List.getElem?_append_left (by omega)] at hg'
        have h1 := (hT.out.rows i g hi hg').lt'
        have h2 := hK.size
        exact ⟨by omega, by omega⟩
      clear hT3 hND hne hgD hat hK keep lO l1 l2 rvge
      go_wp2_with fail
      refine (HR _ _ ((Blk.new w3 _ _).cell 0)).out.mono ?_; rintro e w4 ⟨rfl, hg7, hb2⟩
      obtain ⟨gN, h7⟩ : ∃ g, (w3.alloc (.cells #[.string ⟨#[48]⟩] 22)).heap.size = g := ⟨_, rfl⟩
      rw [h7] at hg7 ⊢
      have R7 := hid (NRowT.zeros hg7)
      have a1 := (Below.refl w3.heap.size w3).alloc (Nat.le_refl _) (.cells #[.string ⟨#[48]⟩] 22)
      have b4 := hid (bnext a1 hb2)
      have K7 := hid (show w3.heap.size < gN by rw [← h7]; simp)
      have T4 := hid (T3.out.call b4.out)
      have B4 := hid (bnext B3.out b4.out)
      have QD := hid (show w.heap.size ≤ gD by have := zD.out; have := hB.out.size; omega)
      have QN := hid (show w.heap.size ≤ gN by have := K7.out; have := B3.out.size; omega)
      have l1 : g1 < w3.heap.size := Blk.lt G13.out
      have l2 : g2 < w3.heap.size := Blk.lt G23.out
      have lO : gO < w3.heap.size := O3.out.lt'
      have lT : gt < w3.heap.size := T3.out.blk.lt
      have lR : ∀ b, rv'.ownBlock = some b → b < w3.heap.size := fun b hb => (T3.out.own.lt b hb).2
      have ED : Hid (EnD gt gO gN gD g1 g2 r rv' gs) := by
        have k := K7.out
        have d := LD.out
        refine ⟨by omega, M3.out.2.2.2.1, fun e => ?_, NE3.out, by omega, by omega, fun e => M3.out.1 e.symm, by omega, by omega, M3.out.2.1, M3.out.2.2.1, fun i g hi hg => ?_, fun i g hi hg => (SG.out i g hi hg).1⟩
        · have := lR _ e; omega
        · have := (SG.out i g hi hg).2; omega
      have ES : Hid (EnS w4 gt gO gN gD g1 g2 n r rv' gs (OF r) (List.replicate (n + 1) 0) (List.replicate (n + 1) 0) os zs EF) := ⟨T4.out, O3.out.call b4.out, R7.out, ND3.out.call b4.out, G13.out.call b4.out, G23.out.call b4.out⟩
      have NO : Hid (rv'.ownBlock ≠ some gN) := fun e => by have := lR _ e; have := K7.out; omega
      have DG : Hid (gt < gN) := by show gt < gN; have := K7.out; omega
      have RL : Hid (r ≤ n) := by show r ≤ n; have := HR0.out; omega
      have LG := hid hM.out.1
      clear hg7 hb2 a1 h7 l1 l2 lO lT lR T3 ND3 NE3 zD LD O3 G13 G23 B3 M3 SG R7 K7 T4 hM hT hO hg1 hg2 hB b4 q0
      -- the state of this round
      have NXr := hid (NX.out r); have DNr := hid (DN.out r); have OLr := hid (OL.out r)
      have BNr := hid (fun i j k => BN.out r i j k RL.out); have BDr := hid (fun i j k => BD.out r i j k RL.out); have BOr := hid (fun i => BO.out r i RL.out)
      obtain ⟨O, hO⟩ : ∃ O, OF r = O := ⟨_, rfl⟩
      rw [hO] at NXr DNr OLr BNr BDr BOr ES
      clear hO
      go_wp2_with fail
      go_loopw [41] (fun ii wr => ∃ i : Nat, ii = .int .i64 (i : Nat) ∧ i ≤ n + 1 ∧ Hid (EnS wr gt gO gN gD g1 g2 n r rv' gs O (aOut os O n i) (aOut zs O n i) os zs EF) ∧ Hid (Below w.heap.size w wr)) (fun ii wr => n + 1 - (intOf ii).toNat)
      case atStart => exact ⟨0, rfl, Nat.zero_le _, ES, B4⟩
      case round =>
        clear ES
        obtain ⟨i, rfl, hi, hS, hB⟩ := hrel
        by_cases hlt : i < n + 1
        · have q0 : decide ((i : Int) < ((n + 1 : Nat) : Int)) = true := by simp; omega
          have di : decide ((i : Int) < (n : Int) + 1) = true := by simp; omega
          have f0 : (0 : Int) ≤ (i : Int) := by omega
          have f1 : (i : Int) < ((n + 1 : Nat) : Int) := by omega
          have f1' : (i : Int) < (n : Int) + 1 := by omega
          have f2 : (i : Int) ≤ 1000 := by have := HN.out; omega
          have IL := hid hlt
          clear hi hlt
          go_wp2_with fail
          obtain ⟨x, hx⟩ : ∃ x, O.getD i 0 = x := ⟨_, rfl⟩
          obtain ⟨wo, rfl⟩ : ∃ wo : World, wo = wr := ⟨_, rfl⟩
          have hnx : Hid (aOut os O n (i + 1) = aIn os x i (n + 1 - i) (aOut os O n i)) := by show _ = _; rw [aOut, hx]
          have hdn : Hid (aOut zs O n (i + 1) = aIn zs x i (n + 1 - i) (aOut zs O n i)) := by show _ = _; rw [aOut, hx]
          by_cases hx0 : x = 0
          · have k0 : wo.cell? ⟨gO, i, none⟩ = some (.string (numB x)) := by rw [← hx]; exact hS.out.o.cell (by rw [OLr.out]; exact IL.out)
            have q1 : ((numB x).toList == [48]) = true := by rw [hx0, numB_zero]; exact lit_zero
            have e1 : Hid (aOut os O n (i + 1) = aOut os O n i) := by show _ = _; rw [hnx.out, hx0, aIn_zero]
            have e2 : Hid (aOut zs O n (i + 1) = aOut zs O n i) := by show _ = _; rw [hdn.out, hx0, aIn_zero]
            obtain ⟨sx, hsx⟩ : ∃ s, numB x = s := ⟨_, rfl⟩
            rw [hsx] at k0 q1
            clear hx hx0 hsx
            go_loopw [12] (fun jj wq => jj = .int .i64 0 ∧ wq = wo) (fun jj wq => 0)
            case atStart => exact ⟨rfl, rfl⟩
            case round =>
              obtain ⟨rfl, rfl⟩ := hrel
              go_wp2_with fail
              go_roundw
              case rel => exact ⟨i + 1, by go_num, by have := IL.out; omega, by rw [e1.out, e2.out]; exact hS, hB⟩
              case measure => simp [intOf] <;> (have := IL.out; omega)
          · have q1 : ((numB x).toList == [48]) = false := ne_lit (l := [48]) (by rw [← numB_zero]; exact numB_ne hx0)
            have AOL : Hid (∀ c, (aOut c O n i).length = n + 1) := fun c => aOut_length c O n i
            have BNi := hid (fun j k => BNr.out i j k (by have := IL.out; omega)); have BDi := hid (fun j k => BDr.out i j k (by have := IL.out; omega))
            have hxb : x ≤ 2 ^ 200 := by rw [← hx]; exact BOr.out i (by have := IL.out; omega)
            have HXB := hid hxb
            have HX := hid hx
            rw [hx] at BNi BDi
            obtain ⟨nx0, hnx0⟩ : ∃ l, aOut os O n i = l := ⟨_, rfl⟩
            obtain ⟨dn0, hdn0⟩ : ∃ l, aOut zs O n i = l := ⟨_, rfl⟩
            have HNL : Hid (∀ j, (aIn os x i j nx0).length = n + 1) := fun j => by rw [aIn_length, ← hnx0]; exact AOL.out os
            have HDL : Hid (∀ j, (aIn zs x i j dn0).length = n + 1) := fun j => by rw [aIn_length, ← hdn0]; exact AOL.out zs
            rw [hnx0] at BNi hnx hS
            rw [hdn0] at BDi hdn hS
            obtain ⟨sx, hsx⟩ : ∃ s, numB x = s := ⟨_, rfl⟩
            rw [hsx] at q1
            have HSX := hid hsx
            clear hx hx0 hsx hnx0 hdn0 hxb AOL
            go_loopw [12] (fun jj wq => ∃ j : Nat, jj = .int .i64 (j : Nat) ∧ i + j ≤ n + 1 ∧ Hid (EnS wq gt gO gN gD g1 g2 n r rv' gs O (aIn os x i j nx0) (aIn zs x i j dn0) os zs EF) ∧ Hid (Below w.heap.size w wq)) (fun jj wq => n + 1 - (intOf jj).toNat)
            case atStart => exact ⟨0, rfl, by have := IL.out; omega, hS, hB⟩
            case round =>
              clear hS hB
              obtain ⟨j, rfl, hj, hS, hB⟩ := hrel
              have k0 : wr.cell? ⟨gO, i, none⟩ = some (.string sx) := by
                refine (hS.out.o.cell (by rw [OLr.out]; exact IL.out)).trans ?_
                rw [HX.out, HSX.out]
              by_cases hlt : i + j ≤ n
              · have q2 : decide ((i : Int) + (j : Int) ≤ (n : Int)) = true := by simp; omega
                have f5 : (0 : Int) ≤ (j : Int) := by omega
                have f6 : (j : Int) < ((n + 1 : Nat) : Int) := by omega
                have f6' : (j : Int) < (n : Int) + 1 := by omega
                have f7 : (j : Int) ≤ 1000 := by have := HN.out; omega
                have f8 : (i : Int) + (j : Int) < ((n + 1 : Nat) : Int) := by omega
                have f9 : (i : Int) + (j : Int) < (n : Int) + 1 := by omega
                have f10 : (0 : Int) ≤ (i : Int) + (j : Int) := by omega
                have c1 : wr.cell? ⟨g1, j, none⟩ = some (.bool (os j)) := (hS.out.b1.cell j).trans (by rw [List.getElem?_toArray, allB_get (by omega)])
                have c2 : wr.cell? ⟨g2, j, none⟩ = some (.bool (zs j)) := (hS.out.b2.cell j).trans (by rw [List.getElem?_toArray, allB_get (by omega)])
                have HLT := hid hlt
                obtain ⟨zj, hzj⟩ : ∃ b, zs j = b := ⟨_, rfl⟩
                obtain ⟨oj, hoj⟩ : ∃ b, os j = b := ⟨_, rfl⟩
                rw [hoj] at c1
                rw [hzj] at c2
                have HZJ := hid hzj; have HOJ := hid hoj
                clear hlt hj hzj hoj
                obtain ⟨y1, hy1⟩ : ∃ y, (aIn zs x i j dn0).getD (i + j) 0 = y := ⟨_, rfl⟩
                obtain ⟨y2, hy2⟩ : ∃ y, (aIn os x i j nx0).getD (i + j) 0 = y := ⟨_, rfl⟩
                have p2 : (2 : Nat) ^ 201 = 2 ^ 200 + 2 ^ 200 := by rw [show (201 : Nat) = 200 + 1 from rfl, Nat.pow_succ]
                have hxb := HXB.out
                have hy1b : y1 ≤ 2 ^ 200 := hy1 ▸ BDi.out j (i + j) (by have := HLT.out; omega) HLT.out
                have hy2b : y2 ≤ 2 ^ 200 := hy2 ▸ BNi.out j (i + j) (by have := HLT.out; omega) HLT.out
                have dx := two_pow_digits hxb (by omega)
                have P1 := fun V hV => hid (p_plus V y1 x (two_pow_digits hy1b (by omega)) dx (two_pow_digits (i := 201) (by rw [p2]; exact Nat.add_le_add hy1b hxb) (by omega)) hV)
                have P2 := fun V hV => hid (p_plus V y2 x (two_pow_digits hy2b (by omega)) dx (two_pow_digits (i := 201) (by rw [p2]; exact Nat.add_le_add hy2b hxb) (by omega)) hV)
                have t1 : wr.cell? ⟨gD, i + j, none⟩ = some (.string (numB y1)) := by rw [← hy1]; exact hS.out.dn.cell (by rw [HDL.out]; have := HLT.out; omega)
                have t2 : wr.cell? ⟨gN, i + j, none⟩ = some (.string (numB y2)) := by rw [← hy2]; exact hS.out.nx.cell (by rw [HNL.out]; have := HLT.out; omega)
                rw [HSX.out] at P1 P2
                obtain ⟨u1, hu1⟩ : ∃ s, numB y1 = s := ⟨_, rfl⟩
                obtain ⟨u2, hu2⟩ : ∃ s, numB y2 = s := ⟨_, rfl⟩
                rw [hu1] at P1 t1
                rw [hu2] at P2 t2
                have HY1 := hid hy1; have HY2 := hid hy2; have HU2 := hid hu2
                obtain ⟨m1, hm1⟩ : ∃ s, numB (y1 + x) = s := ⟨_, rfl⟩
                obtain ⟨m2, hm2⟩ : ∃ s, numB (y2 + x) = s := ⟨_, rfl⟩
                rw [hm1] at P1
                rw [hm2] at P2
                have HM1 := hid hm1; have HM2 := hid hm2
                have k1 := k0
                have k2 := k0
                have HOL := OLr
                clear hm1 hm2
                clear hy1 hy2 p2 hxb hy1b hy2b dx hu1 hu2
                cases zj
                · have hD0 : Hid (aIn zs x i (j + 1) dn0 = aIn zs x i j dn0) := by show _ = _; rw [aIn, HZJ.out, addAt_false]
                  cases oj
                  · have hN0 : Hid (aIn os x i (j + 1) nx0 = aIn os x i j nx0) := by show _ = _; rw [aIn, HOJ.out, addAt_false]
                    go_wp2_with fail
                    go_roundw
                    case rel => exact ⟨j + 1, by go_num, by have := HLT.out; omega, by rw [hN0.out, hD0.out]; exact hS, hB⟩
                    case measure => simp [intOf] <;> (have := HLT.out; omega)
                  · have hN0 : Hid (aIn os x i (j + 1) nx0 = (aIn os x i j nx0).set (i + j) (y2 + x)) := by show _ = _; rw [aIn, HOJ.out, addAt_true, HY2.out]
                    go_wp2_with fail
                    have ew : IntKind.i64.wrap ((i : Int) + (j : Int)) = (i : Int) + (j : Int) := by rw [IntWalk.i64_in _ ⟨by omega, by omega⟩]
                    have et : ((i : Int) + (j : Int)).toNat = i + j := by omega
                    refine held_lasts 15 2 [0, 1, 2, 3, 4, 5, 6, 7, 8, 9, 10, 11, 12, 13] 1 (fun W' => W'.cell? ⟨gN, i + j, none⟩ = some (.string u2) ∧ W'.cell? ⟨gO, i, none⟩ = some (.string sx)) (by kernel_rfl) rfl (by kernel_rfl) (by kernel_rfl) (by kernel_rfl) (by kernel_rfl) ⟨t2, k2⟩ ?_
                    iterate 14
                      refine ⟨_, rfl, ?_⟩
                      apply Exists.intro
                      refine ⟨.inl ⟨by rfl, ?_⟩, ?_⟩
                      · (intro W' hW'; obtain ⟨r1, r2⟩ := hW'; go_simp; try (with_reducible rfl))
                      (dsimp only [Act.put]; try simp only [List.setIfInBounds_toArray, List.set_cons_zero, List.set_cons_succ])
                    refine held_one (i := 14) (by kernel_rfl) (by rfl) (by rfl) ?_
                    go_wp2_with fail
                    refine (P2 _ (HL.out.below hB.out.drew HLL.out)).out.mono ?_; rintro e w5 ⟨rfl, hbc⟩
                    have C2 := hid (show Below wr.heap.size wr w5 from (Below.refl _ _).drew.trans hbc)
                    have E2 := hid (hS.out.call C2.out); have F2 := hid (hB.out.trans (C2.out.mono hB.out.size))
                    have tc2 := (C2.out.cell (cell_lt t2)).trans t2
                    have kc2 := (C2.out.cell (cell_lt k2)).trans k2
                    clear hbc
                    go_wp2_with fail
                    refine ⟨⟨tc2, kc2⟩, ?_⟩
                    refine wpAnyH_done (by kernel_rfl) ?_ _
                    simp only [Only, ThenL, List.drop_succ_cons, List.drop_zero]
                    have fz2 := E2.out.nx.free (i + j)
                    clear kc2
                    go_wp2_with fail
                    try simp only [Only]
                    go_roundw
                    case rel => exact ⟨j + 1, by go_num, by have := HLT.out; omega, by rw [hN0.out, hD0.out, ← HM2.out]; exact E2.out.setN ED.out (i + j) (y2 + x), F2.out.setCell QN.out _⟩
                    case measure => simp [intOf] <;> (have := HLT.out; omega)
                · have hD0 : Hid (aIn zs x i (j + 1) dn0 = (aIn zs x i j dn0).set (i + j) (y1 + x)) := by show _ = _; rw [aIn, HZJ.out, addAt_true, HY1.out]
                  cases oj
                  · have hN0 : Hid (aIn os x i (j + 1) nx0 = aIn os x i j nx0) := by show _ = _; rw [aIn, HOJ.out, addAt_false]
                    go_wp2_with fail
                    have ew : IntKind.i64.wrap ((i : Int) + (j : Int)) = (i : Int) + (j : Int) := by rw [IntWalk.i64_in _ ⟨by omega, by omega⟩]
                    have et : ((i : Int) + (j : Int)).toNat = i + j := by omega
                    refine held_lasts 15 2 [0, 1, 2, 3, 4, 5, 6, 7, 8, 9, 10, 11, 12, 13] 1 (fun W' => W'.cell? ⟨gD, i + j, none⟩ = some (.string u1) ∧ W'.cell? ⟨gO, i, none⟩ = some (.string sx)) (by kernel_rfl) rfl (by kernel_rfl) (by kernel_rfl) (by kernel_rfl) (by kernel_rfl) ⟨t1, k1⟩ ?_
                    iterate 14
                      refine ⟨_, rfl, ?_⟩
                      apply Exists.intro
                      refine ⟨.inl ⟨by rfl, ?_⟩, ?_⟩
                      · (intro W' hW'; obtain ⟨r1, r2⟩ := hW'; go_simp; try (with_reducible rfl))
                      (dsimp only [Act.put]; try simp only [List.setIfInBounds_toArray, List.set_cons_zero, List.set_cons_succ])
                    refine held_one (i := 14) (by kernel_rfl) (by rfl) (by rfl) ?_
                    go_wp2_with fail
                    refine (P1 _ (HL.out.below hB.out.drew HLL.out)).out.mono ?_; rintro e w5 ⟨rfl, hbc⟩
                    have C1 := hid (show Below wr.heap.size wr w5 from (Below.refl _ _).drew.trans hbc)
                    have E1 := hid (hS.out.call C1.out); have F1 := hid (hB.out.trans (C1.out.mono hB.out.size))
                    have tc1 := (C1.out.cell (cell_lt t1)).trans t1
                    have kc1 := (C1.out.cell (cell_lt k1)).trans k1
                    clear hbc
                    go_wp2_with fail
                    refine ⟨⟨tc1, kc1⟩, ?_⟩
                    refine wpAnyH_done (by kernel_rfl) ?_ _
                    simp only [Only, ThenL, List.drop_succ_cons, List.drop_zero]
                    have fz1 := E1.out.dn.free (i + j)
                    clear kc1
                    have S6 : Hid (EnS (w5.setCell ⟨gD, i + j, none⟩ (.string m1)) gt gO gN gD g1 g2 n r rv' gs O (aIn os x i j nx0) ((aIn zs x i j dn0).set (i + j) (y1 + x)) os zs EF) := by rw [← HM1.out]; exact E1.out.setD ED.out (i + j) (y1 + x)
                    have c1s : (w5.setCell ⟨gD, i + j, none⟩ (.string m1)).cell? ⟨g1, j, none⟩ = some (.bool false) := (S6.out.b1.cell j).trans (by rw [List.getElem?_toArray, allB_get (by have := HLT.out; omega), HOJ.out])
                    go_wp2_with fail
                    try simp only [Only]
                    go_roundw
                    case rel => exact ⟨j + 1, by go_num, by have := HLT.out; omega, by rw [hN0.out, hD0.out]; exact S6, F1.out.setCell QD.out _⟩
                    case measure => simp [intOf] <;> (have := HLT.out; omega)
                  · have hN0 : Hid (aIn os x i (j + 1) nx0 = (aIn os x i j nx0).set (i + j) (y2 + x)) := by show _ = _; rw [aIn, HOJ.out, addAt_true, HY2.out]
                    go_wp2_with fail
                    have ew : IntKind.i64.wrap ((i : Int) + (j : Int)) = (i : Int) + (j : Int) := by rw [IntWalk.i64_in _ ⟨by omega, by omega⟩]
                    have et : ((i : Int) + (j : Int)).toNat = i + j := by omega
                    refine held_lasts 15 2 [0, 1, 2, 3, 4, 5, 6, 7, 8, 9, 10, 11, 12, 13] 1 (fun W' => W'.cell? ⟨gD, i + j, none⟩ = some (.string u1) ∧ W'.cell? ⟨gO, i, none⟩ = some (.string sx)) (by kernel_rfl) rfl (by kernel_rfl) (by kernel_rfl) (by kernel_rfl) (by kernel_rfl) ⟨t1, k1⟩ ?_
                    iterate 14
                      refine ⟨_, rfl, ?_⟩
                      apply Exists.intro
                      refine ⟨.inl ⟨by rfl, ?_⟩, ?_⟩
                      · (intro W' hW'; obtain ⟨r1, r2⟩ := hW'; go_simp; try (with_reducible rfl))
                      (dsimp only [Act.put]; try simp only [List.setIfInBounds_toArray, List.set_cons_zero, List.set_cons_succ])
                    refine held_one (i := 14) (by kernel_rfl) (by rfl) (by rfl) ?_
                    go_wp2_with fail
                    refine (P1 _ (HL.out.below hB.out.drew HLL.out)).out.mono ?_; rintro e w5 ⟨rfl, hbc⟩
                    have C1 := hid (show Below wr.heap.size wr w5 from (Below.refl _ _).drew.trans hbc)
                    have E1 := hid (hS.out.call C1.out); have F1 := hid (hB.out.trans (C1.out.mono hB.out.size))
                    have tc1 := (C1.out.cell (cell_lt t1)).trans t1
                    have kc1 := (C1.out.cell (cell_lt k1)).trans k1
                    clear hbc
                    go_wp2_with fail
                    refine ⟨⟨tc1, kc1⟩, ?_⟩
                    refine wpAnyH_done (by kernel_rfl) ?_ _
                    simp only [Only, ThenL, List.drop_succ_cons, List.drop_zero]
                    have fz1 := E1.out.dn.free (i + j)
                    clear kc1
                    have S6 : Hid (EnS (w5.setCell ⟨gD, i + j, none⟩ (.string m1)) gt gO gN gD g1 g2 n r rv' gs O (aIn os x i j nx0) ((aIn zs x i j dn0).set (i + j) (y1 + x)) os zs EF) := by rw [← HM1.out]; exact E1.out.setD ED.out (i + j) (y1 + x)
                    have c1s : (w5.setCell ⟨gD, i + j, none⟩ (.string m1)).cell? ⟨g1, j, none⟩ = some (.bool true) := (S6.out.b1.cell j).trans (by rw [List.getElem?_toArray, allB_get (by have := HLT.out; omega), HOJ.out])
                    go_wp2_with fail
                    try simp only [Only]
                    have B6 := hid (F1.out.setCell (p := ⟨gD, i + j, none⟩) QD.out (.string m1))
                    obtain ⟨w6, hw6⟩ : ∃ W, w5.setCell ⟨gD, i + j, none⟩ (.string m1) = W := ⟨_, rfl⟩
                    rw [hw6] at S6 B6 ⊢
                    have k2 : w6.cell? ⟨gO, i, none⟩ = some (.string sx) := by
                      refine (S6.out.o.cell (by rw [HOL.out]; exact IL.out)).trans ?_
                      rw [HX.out, HSX.out]
                    have t2 : w6.cell? ⟨gN, i + j, none⟩ = some (.string u2) := by
                      refine (S6.out.nx.cell (by rw [HNL.out j]; have := HLT.out; omega)).trans ?_
                      rw [HY2.out, HU2.out]
                    clear hw6 c1s fz1 tc1 ew t1 k1
                    have ew : IntKind.i64.wrap ((i : Int) + (j : Int)) = (i : Int) + (j : Int) := by rw [IntWalk.i64_in _ ⟨by omega, by omega⟩]
                    refine held_lasts 15 2 [0, 1, 2, 3, 4, 5, 6, 7, 8, 9, 10, 11, 12, 13] 1 (fun W' => W'.cell? ⟨gN, i + j, none⟩ = some (.string u2) ∧ W'.cell? ⟨gO, i, none⟩ = some (.string sx)) (by kernel_rfl) rfl (by kernel_rfl) (by kernel_rfl) (by kernel_rfl) (by kernel_rfl) ⟨t2, k2⟩ ?_
                    iterate 14
                      refine ⟨_, rfl, ?_⟩
                      apply Exists.intro
                      refine ⟨.inl ⟨by rfl, ?_⟩, ?_⟩
                      · (intro W' hW'; obtain ⟨r1, r2⟩ := hW'; go_simp; try (with_reducible rfl))
                      (dsimp only [Act.put]; try simp only [List.setIfInBounds_toArray, List.set_cons_zero, List.set_cons_succ])
                    refine held_one (i := 14) (by kernel_rfl) (by rfl) (by rfl) ?_
                    go_wp2_with fail
                    refine (P2 _ (HL.out.below B6.out.drew HLL.out)).out.mono ?_; rintro e w7 ⟨rfl, hbc⟩
                    have C2 := hid (show Below w6.heap.size w6 w7 from (Below.refl _ _).drew.trans hbc)
                    have E2 := hid (S6.out.call C2.out); have F2 := hid (B6.out.trans (C2.out.mono B6.out.size))
                    have tc2 := (C2.out.cell (cell_lt t2)).trans t2
                    have kc2 := (C2.out.cell (cell_lt k2)).trans k2
                    clear hbc
                    go_wp2_with fail
                    refine ⟨⟨tc2, kc2⟩, ?_⟩
                    refine wpAnyH_done (by kernel_rfl) ?_ _
                    simp only [Only, ThenL, List.drop_succ_cons, List.drop_zero]
                    have fz2 := E2.out.nx.free (i + j)
                    clear kc2
                    go_wp2_with fail
                    try simp only [Only]
                    go_roundw
                    case rel => exact ⟨j + 1, by go_num, by have := HLT.out; omega, by rw [hN0.out, hD0.out, ← HM2.out]; exact E2.out.setN ED.out (i + j) (y2 + x), F2.out.setCell QN.out _⟩
                    case measure => simp [intOf] <;> (have := HLT.out; omega)
              · have q2 : decide ((i : Int) + (j : Int) ≤ (n : Int)) = false := by simp; omega
                have e1 : j = n + 1 - i := by omega
                have f7 : (j : Int) ≤ 1001 := by have := HN.out; omega
                have f5 : (0 : Int) ≤ (j : Int) := by omega
                subst e1
                clear hj hlt
                go_wp2_with fail
                go_roundw
                case rel => exact ⟨i + 1, by go_num, by have := IL.out; omega, by rw [hnx.out, hdn.out]; exact hS, hB⟩
                case measure => simp [intOf] <;> (have := IL.out; omega)
        · have q0 : decide ((i : Int) < ((n + 1 : Nat) : Int)) = false := by simp; omega
          have di : decide ((i : Int) < (n : Int) + 1) = false := by simp; omega
          have e1 : i = n + 1 := by omega
          subst e1
          rw [NXr.out, DNr.out] at hS
          clear hi hlt
          have wr1 : IntKind.i64.wrap ((r : Int) + 1) = ((r + 1 : Nat) : Int) := by have := RL.out; have := HN.out; rw [IntWalk.i64_in _ ⟨by omega, by omega⟩]; omega
          go_wp2_with fail
          go_roundw
          case rel =>
            refine ⟨r + 1, gN, rv', gs ++ [gD], rfl, by go_num, by have := RL.out; omega, ⟨by rw [List.length_append, LG.out]; rfl, DG.out, NO.out⟩, ?_, hS.out.nx, hS.out.b1, hS.out.b2, hB⟩
            have h := hS.out.tab
            refine ⟨h.blk, h.own, fun i g hi hg => ?_, h.ne, fun i g hi hg => ?_, fun i g hi hg => ?_⟩
            · by_cases hi2 : i < r
              · exact h.rows i g hi2 hg
              · obtain rfl : i = r := by omega
                rw [List.getElem?_append_right (by have := LG.out; omega), LG.out, Nat.sub_self] at hg
                simp at hg
                subst hg
                exact hS.out.dn
            · by_cases hi2 : i < r
              · exact h.sep i g hi2 hg
              · obtain rfl : i = r := by omega
                rw [List.getElem?_append_right (by have := LG.out; omega), LG.out, Nat.sub_self] at hg
                simp at hg
                subst hg
                exact ED.out.rD
            · by_cases hi2 : i < r
              · exact h.gne i g hi2 hg
              · obtain rfl : i = r := by omega
                rw [List.getElem?_append_right (by have := LG.out; omega), LG.out, Nat.sub_self] at hg
                simp at hg
                subst hg
                exact ED.out.tD
          case measure => simp [intOf] <;> (have := RL.out; omega)
    · have q0 : decide ((r : Int) < ((n + 1 : Nat) : Int)) = false := by simp; omega
      have dr : decide ((r : Int) < (n : Int) + 1) = false := by simp; omega
      have e1 : r = n + 1 := by omega
      subst e1
      clear hr hlt
      unfold rowV
      go_wp2_with fail
      go_ret
      refine ⟨⟨gt, rfl, D1.out.2.2, ?_⟩, hB.out⟩
      rw [HEF.out]
      exact tabR_of hT.out hM.out.1 (fun i => by rw [← HEF.out]; exact fnL_length _ _) (by have := HN.out; omega)
end Go.Proofs.YtccalhlhdiapiaaGreatDoor
namespace Go.Proofs.YtccalhlhdiapiaaGreatDoor
open Go.RowKit Go.Shelf
open Go.Lib (decDigits nDigits)
set_option linter.unusedVariables false
set_option linter.unusedSimpArgs false
set_option maxRecDepth 100000 in
theorem g_power (w : World) (n : Nat) (hn : n ≤ 1000) (hL : Lay w) :
    Calls Tryz.prog 63 #[.int .i64 n] w fun e w' => e = .returned (.string (numB (2 ^ n))) ∧ Below w.heap.size w w' := by
  have HP := hid (n_Pow_ok w ⟨#[50]⟩ n errN_two (by omega) (by rw [bN_two]; exact two_digits hn) hL)
  rw [bN_two] at HP
  clear hn hL
  go_enter Tryz.func63, Tryz.ntmps63
  go_wp2_with fail
  refine HP.out.mono ?_; rintro e w1 ⟨rfl, hb1⟩
  have b1 := hid hb1; clear hb1
  go_wp2_with fail
  go_ret
  exact ⟨rfl, b1.out⟩
end Go.Proofs.YtccalhlhdiapiaaGreatDoor
namespace Go.Proofs.YtccalhlhdiapiaaGreatDoor
open Go.RowKit Go.Maps
open Go.Lib (decDigits nDigits)
set_option linter.unusedVariables false
set_option linter.unusedSimpArgs false
set_option maxRecDepth 100000 in
set_option maxHeartbeats 1000000 in
theorem c_Or (w : World) (g x : Nat) (h : Blk w g #[.string (cellB x), .string ⟨#[48]⟩] 22) :
    Calls Tryz.prog 123 #[.slice (some ⟨g, 0, none⟩) 2 2] w fun e w' => e = .returned (.string (numB x)) ∧ w = w' := by
  have r0 := h.cell 0
  have r1 := h.cell 1
  simp at r0 r1
  by_cases hx : x = 0
  · subst hx
    have e1 : cellB 0 = ⟨#[]⟩ := rfl
    have e2 : numB 0 = ⟨#[48]⟩ := numB_zero
    rw [e1] at r0
    rw [e2]
    clear h e1 e2
    go_enter Tryz.func123, Tryz.ntmps123
    go_wp2_with fail
    go_loopw [8] (fun ii wr => ∃ i : Nat, ii = .int .i64 (i : Nat) ∧ i ≤ 1 ∧ wr = w) (fun ii wr => 2 - (intOf ii).toNat)
    case atStart => exact ⟨0, rfl, Nat.zero_le _, rfl⟩
    case round =>
      obtain ⟨i, rfl, hi, rfl⟩ := hrel
      rcases Nat.lt_or_ge i 1 with h0 | h0
      · obtain rfl : i = 0 := by omega
        clear hi h0
        go_wp2_with fail
        go_roundw
        case rel => exact ⟨1, by go_num, by omega, by simp⟩
        case measure => simp [intOf]
      · obtain rfl : i = 1 := by omega
        clear hi h0
        go_wp2_with fail
        go_ret
        exact ⟨rfl, rfl⟩
  · have e1 : cellB x = numB x := if_neg hx
    rw [e1] at r0
    have q1 : ((numB x).toList == []) = false := ne_lit (l := []) (fun e => by
      have h1 := numB_size x
      rw [e] at h1
      have h2 := Go.Lib.nDigits_pos x
      simp [ByteArray.size] at h1
      omega)
    obtain ⟨s, hs⟩ : ∃ s, numB x = s := ⟨_, rfl⟩
    rw [hs] at r0 q1 ⊢
    clear h e1 hs hx
    go_enter Tryz.func123, Tryz.ntmps123
    go_wp2_with fail
    go_loopw [8] (fun ii wr => ii = .int .i64 0 ∧ wr = w) (fun ii wr => 0)
    case atStart => exact ⟨rfl, rfl⟩
    case round =>
      obtain ⟨rfl, rfl⟩ := hrel
      go_wp2_with fail
      go_ret
      exact ⟨rfl, rfl⟩
/-- The map of geom.law under way: counts c; at most K entries. -/
structure GlS (H : Type) (w1 w : World) (B K : Nat) (c : Int → Nat) : Prop where
  bel : Below w1.heap.size w1 w
  ex : ∃ (nn : Nat) (D : DataW H), nn ≤ K ∧ w.ownsMap Tryz.prog 3 (plainElem Tryz.prog 22) B nn D ∧ ReadsI D c
theorem GlS.mono {H : Type} {w1 w : World} {B K K' : Nat} {c c' : Int → Nat} (h : GlS H w1 w B K c) (hK : K ≤ K') (hc : c = c') : GlS H w1 w B K' c' := by
  subst hc
  obtain ⟨h1, nn, D, h2, h3, h4⟩ := h
  exact ⟨h1, nn, D, by omega, h3, h4⟩
theorem below_map {w1 w w' : World} {B : Nat} (h : Below w1.heap.size w1 w) (hg : w.grownBy w' (some B)) (hB : w1.heap.size ≤ B) : Below w1.heap.size w1 w' := by
  refine ⟨hg.os.trans h.os, hg.tape.trans h.tape, hg.output.trans h.output, Nat.le_trans h.size hg.size, fun i hi => ?_⟩
  exact (hg.block i (by have := h.size; omega) (fun e => by injection e with e; omega)).trans (h.block i hi)
theorem wf_int {v : Int} (h1 : -100000 ≤ v) (h2 : v ≤ 100000) : (Lit.int .i64 v).wf = true := WalkArith.wf_i64 ⟨by omega, by omega⟩
theorem nd_mul_pw {x y a b : Nat} (h1 : x ≤ 2 ^ a) (h2 : y ≤ 2 ^ b) (h : a + b ≤ 3000) : nDigits (x * y) ≤ 4000 := two_pow_digits (by rw [Nat.pow_add]; exact Nat.mul_le_mul h1 h2) h
theorem numB_size_le {x : Nat} (h : nDigits x ≤ 4000) : (numB x).size ≤ maxLen := by rw [numB_size]; unfold maxLen; omega
end Go.Proofs.YtccalhlhdiapiaaGreatDoor
