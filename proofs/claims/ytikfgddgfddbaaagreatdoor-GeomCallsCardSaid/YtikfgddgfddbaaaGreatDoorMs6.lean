/- Walks: slices.Repeat of one text. -/
import Derived.Test.YtikfgddgfddbaaaGreatDoorMs5
import Derived.Laws.CopyOwn
import Derived.Deep.DeepCutAuto
import Derived.RegionTactic
import Derived.Deep.LoopGhost
import Derived.Deep.RegionHeld3
import Derived.WalkSmall
namespace Go.Proofs.YtikfgddgfddbaaaGreatDoor
open Go.RowKit
set_option linter.unusedVariables false
set_option linter.unusedSimpArgs false


/-- A row of texts. -/
def strs (l : List ByteArray) : List Value := l.map Value.string
@[simp] theorem strs_length (l : List ByteArray) : (strs l).length = l.length := by simp [strs]
theorem strs_get {l : List ByteArray} {i : Nat} {s : ByteArray} (h : l[i]? = some s) : (strs l)[i]? = some (.string s) := by simp [strs, h]
theorem strs_one (l : List ByteArray) : ∀ u ∈ strs l, u.oneCell' = true := by
  intro u hu
  obtain ⟨x, _, rfl⟩ := List.mem_map.1 hu
  rfl

theorem make_strs (n : Nat) (h : n ≤ 1000000) (W : World) : (Instr.makeSlice 89 (.int .i64 (n : Int)) (.int .i64 (n : Int))).run Tryz.prog W = .ok (.slice (some ⟨W.heap.size, 0, none⟩) n n) (W.alloc (.cells (madeCells #[.string ⟨#[]⟩] n) 22)) :=
  run_make_row' (P := Tryz.prog) 89 22 (.string ⟨#[]⟩) 16 Tryz.underlying89 (by kernel_rfl) rfl .i64 .i64 n (by omega) (by omega) W

theorem made_strs (n : Nat) : madeCells #[.string ⟨#[]⟩] n = (strs (List.replicate n ⟨#[]⟩)).toArray := by
  apply Array.ext_getElem?
  intro i
  unfold madeCells strs
  by_cases hi : i < n <;> simp [hi, Nat.mod_one]

/-- The copy as an operation of a region. -/
theorem wp_copy_splice {P : Program} {o : Oper} {a : Act} {w : World} {K : Act → World → Prop} {Q : Exit → Act → World → Prop} (d s : Operand) (dT sT : TypeId)
    (ho : o.op = .call { callee := .builtin .copy, args := #[d, s], argTypes := #[dT, sT] }) (elem : TypeId) (hu : P.underlying dT = some (.slice elem)) (hsz : (P.info? elem).map (·.size) = some 1)
    (dp sp : Option Addr) (dLen dCap sLen sCap : Nat) (hd : a.eval d = .slice dp dLen dCap) (hs : a.eval s = .slice sp sLen sCap)
    (g off : Nat) (cur : List Value) (t : TypeId) (hg : w.heap[g]? = some (.cells cur.toArray t (0, 0))) (cs : List Value) (hn : cs.length = Nat.min sLen dLen)
    (hpos : 0 < cs.length → dp = some ⟨g, off, none⟩ ∧ ∃ ad, sp = some ad ∧ ∀ j v, cs[j]? = some v → w.cell? (ad.add j) = some v)
    (hfit : off + cs.length ≤ cur.length) (h1 : ∀ v ∈ cs, v.oneCell' = true) (B : Nat) (w0 : World) (hb : RowKit.Below B w0 w) (hBg : B ≤ g)
    (h : ∀ w', RowKit.Hid (w'.heap[g]? = some (.cells (splice cur off cs).toArray t (0, 0))) → RowKit.Below B w0 w' → K (a.put o.dst (goInt cs.length)) w') :
    Oper.wp P o a w K Q := by
  by_cases h0 : cs.length = 0
  · obtain rfl : cs = [] := List.eq_nil_of_length_eq_zero h0
    have hrun := run_copy_none (P := P) w dT sT o.type elem dp sp dLen dCap sLen sCap hu hsz (by simpa using hn.symm)
    unfold Oper.wp
    simp [execOp, ho, resolve, invoke, builtin, hd, hs, hrun, Result.andThen]
    exact h w (show _ = _ by simpa [splice] using hg) hb
  · obtain ⟨rfl, ad, rfl, hsrc⟩ := hpos (by omega)
    have hrun := run_copy_row (P := P) w dT sT o.type elem g off dLen dCap ad sLen sCap cur.toArray t cs hu hsz hg hn hsrc (by simpa using hfit) h1
    unfold Oper.wp
    simp [execOp, ho, resolve, invoke, builtin, hd, hs, hrun, Result.andThen]
    exact h _ (show _ = _ by simpa [splice] using setRow_heap w g _ _ t _ hg) (below_setRow hb hBg _)

/-- k of n texts are laid. -/
def repL (s : ByteArray) (n k : Nat) : List Value := strs (List.replicate k s ++ List.replicate (n - k) ⟨#[]⟩)

theorem repL_splice {s : ByteArray} {n k m : Nat} (h : k + m ≤ n) : splice (repL s n k) k (strs (List.replicate m s)) = repL s n (k + m) := by
  unfold splice repL strs
  simp only [List.map_append, List.map_replicate, List.length_replicate]
  rw [List.take_append_of_le_length (by simp), List.take_of_length_le (by simp), List.drop_append, List.drop_of_length_le (by simp), List.nil_append, List.length_replicate, List.drop_replicate, ← List.append_assoc, List.replicate_append_replicate]
  rw [show n - k - (k + m - k) = n - (k + m) by omega]

set_option maxRecDepth 100000 in
set_option maxHeartbeats 2000000 in
theorem s_Repeat (w : World) (g0 n : Nat) (s : ByteArray) (h1 : 1 ≤ n) (h2 : n ≤ 100000) (hc : w.cell? ⟨g0, 0, none⟩ = some (.string s)) :
    Calls Tryz.prog 83 #[.slice (some ⟨g0, 0, none⟩) 1 1, .int .i64 n] w fun e w' =>
      e = .returned (.slice (some ⟨w.heap.size, 0, none⟩) n n) ∧ Blk w' w.heap.size (strs (List.replicate n s)).toArray 22 ∧ Below w.heap.size w w' := by
  have HM := fun W => hid (make_strs n (by omega) W)
  have HB := fun W => hid (Tryz.bits_Mul 1 n (by omega) (by omega) W)
  have e1 : (((1 * n / 18446744073709551616 : Nat)) : Int) = 0 := by
    rw [Nat.one_mul, Nat.div_eq_of_lt (by omega)]; rfl
  have e2 : (((1 * n % 18446744073709551616 : Nat)) : Int) = (n : Int) := by
    rw [Nat.one_mul, Nat.mod_eq_of_lt (by omega)]
  rw [e1, e2] at HB
  have hn0 : (0 : Int) ≤ (n : Int) := by omega
  have hn1 : (n : Int) ≤ 100000 := by omega
  have q0 : decide ((n : Int) < 0) = false := by simp
  have hsrc : ∀ j v, (strs [s])[j]? = some v → w.cell? ((⟨g0, 0, none⟩ : Addr).add j) = some v := by
    intro j v hj
    rcases j with _ | j
    · simp [strs] at hj; rw [← hj]; exact hc
    · simp [strs] at hj
  have HSRC := hid hsrc; have H1 := hid h1; have H2 := hid h2
  clear e1 e2 hsrc hc h1 h2
  go_enter Tryz.func83, Tryz.ntmps83
  go_wp2_with fail
  refine (HB _).out.mono ?_; rintro e w1 ⟨rfl, rfl⟩
  clear HB
  have HM1 := (HM w1).out
  have hc1 : (w1.alloc (.cells (madeCells #[.string ⟨#[]⟩] n) 22)).heap[w1.heap.size]? = some (.cells (repL s n 0).toArray 22 (0, 0)) := by
    have := Blk.new w1 (madeCells #[.string ⟨#[]⟩] n) 22
    rw [made_strs] at this ⊢
    simpa [repL, Blk] using this
  have hc2 : (strs [s]).length = Nat.min 1 n := (Nat.min_eq_left H1.out).symm
  have hc3 : ∀ j v, (strs [s])[j]? = some v → (w1.alloc (.cells (madeCells #[.string ⟨#[]⟩] n) 22)).cell? ((⟨g0, 0, none⟩ : Addr).add j) = some v := fun j v h =>
    have h2 := HSRC.out j v h
    (((Below.refl w1.heap.size w1).alloc (Nat.le_refl _) _).cell (cell_lt h2)).trans h2
  have hc4 : 0 + (strs [s]).length ≤ (repL s n 0).length := by simp [strs, repL]; have := H1.out; omega
  have hc5 := (Below.refl w1.heap.size w1).alloc (Nat.le_refl _) (.cells (madeCells #[.string ⟨#[]⟩] n) 22)
  have C1 := hid hc1; have C2 := hid hc2; have C3 := hid hc3; have C4 := hid hc4; have C5 := hid hc5
  have hsp : splice (repL s n 0) 0 (strs [s]) = repL s n 1 := by
    have := repL_splice (s := s) (n := n) (k := 0) (m := 1) (by have := H1.out; omega)
    simpa using this
  have HSP := hid hsp
  clear hc1 hc2 hc3 hc4 hc5 HM hsp
  go_wp2_with (refine wpList_copy_splice rfl (.tmp 31) (.tmp 32) 89 89 rfl 22 Tryz.underlying89 (by kernel_rfl) (some ⟨w1.heap.size, 0, none⟩) (some ⟨g0, 0, none⟩) n n 1 1 rfl rfl w1.heap.size 0 (repL s n 0) 22 C1.out (strs [s]) C2.out (fun _ => ⟨rfl, _, rfl, C3.out⟩) C4.out (strs_one _) w1.heap.size w1 C5.out (Nat.le_refl _) ?_; intro w2 hg2 hb2)
  rw [HSP.out] at hg2
  have G2 := hid (show Blk w2 w1.heap.size (repL s n 1).toArray 22 from hg2.out); have B2 := hid hb2
  obtain ⟨H, hH⟩ : ∃ H, w1.heap.size = H := ⟨_, rfl⟩
  rw [hH] at G2 B2 ⊢
  clear hg2 hb2 HM1 C1 C2 C3 C4 C5 HSP HSRC
  have HH := hid hH
  clear hH
  go_loopw [8] (fun i wr => ∃ k : Nat, i = .int .i64 (k : Nat) ∧ 1 ≤ k ∧ k ≤ n ∧ Hid (Blk wr H (repL s n k).toArray 22) ∧ Hid (Below H w1 wr)) (fun i wr => n - (intOf i).toNat)
  case atStart => exact ⟨1, rfl, Nat.le_refl _, H1.out, G2.out, B2.out⟩
  case round =>
    obtain ⟨k, rfl, hk1, hk2, hG, hB⟩ := hrel
    by_cases hlt : k < n
    · have f0 : (0 : Int) ≤ (k : Int) := by omega
      have f1 : (k : Int) < (n : Int) := by omega
      have f2 : (k : Int) ≤ (n : Int) := by omega
      have K1 := hid hk1; have K2 := hid hlt
      clear hk1 hk2
      go_wp2_with fail
      refine held_plain [0, 1, 2, 3, 4, 5, 6] 3 (fun _ => True) (by kernel_rfl) (by kernel_rfl) (by kernel_rfl) (by kernel_rfl) trivial ?_
      iterate 7
        refine ⟨_, rfl, ?_⟩
        apply Exists.intro
        refine ⟨.inl ⟨by rfl, ?_⟩, ?_⟩
        · (intro W' hW'; clear hW'; go_simp; try (with_reducible rfl))
        (dsimp only [Act.put]; try simp only [List.setIfInBounds_toArray, List.set_cons_zero, List.set_cons_succ])
      refine held_one (i := 7) (by kernel_rfl) (by rfl) (by rfl) ?_
      obtain ⟨m, hm⟩ : ∃ m, Nat.min k (n - k) = m := ⟨_, rfl⟩
      have hm1 : m ≤ k := hm ▸ Nat.min_le_left _ _
      have hm2 : m ≤ n - k := hm ▸ Nat.min_le_right _ _
      have hm3 : 1 ≤ m := by rw [← hm]; exact Nat.le_min.2 ⟨K1.out, by omega⟩
      have hsrc : ∀ j v, (strs (List.replicate m s))[j]? = some v → wr.drew.cell? ((⟨H, 0, none⟩ : Addr).add j) = some v := fun j v hj => by
        rw [Addr.add_lit, Nat.zero_add]
        have hjm : j < m := by
          have := (List.getElem?_eq_some_iff.1 hj).1
          simpa using this
        have hv : v = .string s := by
          rw [strs_get (s := s) (by rw [List.getElem?_replicate, if_pos hjm])] at hj
          cases hj; rfl
        rw [hv]
        refine (Blk.cell (Blk.drew hG.out) j).trans ?_
        rw [List.getElem?_toArray]
        exact strs_get (by rw [List.getElem?_append_left (by simp; omega), List.getElem?_replicate, if_pos (by omega)])
      rw [if_neg (show ¬ n = k by have := K2.out; omega)]
      refine wpList_copy_splice rfl (.tmp 41) (.tmp 44) 89 89 rfl 22 Tryz.underlying89 (by kernel_rfl) (some ⟨H, k, none⟩) (some ⟨H, 0, none⟩) (n - k) (n - k) k n rfl rfl H k (repL s n k) 22 hG.out (strs (List.replicate m s)) (by simp [hm]) (fun _ => ⟨rfl, _, rfl, hsrc⟩) (by simp [repL, strs] <;> omega) (strs_one _) H w1 (hB.out.drew) (Nat.le_refl _) ?_
      intro w4 hg4 hb4
      rw [show (strs (List.replicate m s)).length = m by simp]
      rw [repL_splice (by omega)] at hg4
      have G4 := hid (show Blk w4 H (repL s n (k + m)).toArray 22 from hg4.out); have B4 := hid hb4
      have M2 := hid hm2; have M3 := hid hm3
      have f5 : (0 : Int) ≤ (m : Int) := by omega
      have f6 : (m : Int) ≤ 100000 := by omega
      have ew : IntKind.i64.wrap ((k : Int) + (m : Int)) = (k : Int) + (m : Int) := by rw [IntWalk.i64_in _ ⟨by omega, by omega⟩]
      clear hm hm1 hm2 hm3 hsrc hg4 hb4
      go_wp2_with fail
      refine ⟨trivial, ?_⟩
      refine held_more (is := [8, 9]) (g := 0) (by kernel_rfl) rfl trivial (by kernel_rfl) ?_
      iterate 2
        refine ⟨_, rfl, ?_⟩
        apply Exists.intro
        refine ⟨.inl ⟨by rfl, ?_⟩, ?_⟩
        · (intro W' hW'; clear hW'; go_simp; try (with_reducible rfl))
        (dsimp only [Act.put]; try simp only [List.setIfInBounds_toArray, List.set_cons_zero, List.set_cons_succ])
      refine wpAnyH_done (by kernel_rfl) ?_ _
      simp only [Only]
      go_wp2_with fail
      go_roundw
      case rel => exact ⟨k + m, by rw [Int.natCast_add], by have := M3.out; omega, by have := M2.out; have := K2.out; omega, G4, B4⟩
      case measure => simp [intOf] <;> (have := M3.out; have := K2.out; omega)
    · have e1 : k = n := by omega
      subst e1
      go_wp2_with fail
      go_ret
      have hh := HH.out
      subst hh
      refine ⟨rfl, ?_, hB.out⟩
      have := hG.out
      simpa [repL] using this
end Go.Proofs.YtikfgddgfddbaaaGreatDoor

/- Walks: geom.sides. -/
namespace Go.Proofs.YtikfgddgfddbaaaGreatDoor
open Go.RowKit
open Go.Lib (decDigits nDigits)
set_option linter.unusedVariables false
set_option linter.unusedSimpArgs false

theorem p_plus (V : World) (x y : Nat) (hx : nDigits x ≤ 4000) (hy : nDigits y ≤ 4000) (h : nDigits (x + y) ≤ 4000) (hL : Lay V) : Calls Tryz.prog 84 #[.string (numB x), .string (numB y)] V fun e w' => e = .returned (.string (numB (x + y))) ∧ Below V.heap.size V w' := by
  have h2 := g_plus V (numB x) (numB y) (numB_sz hx) (numB_sz hy) hL
  rwa [natB_num hx hy h] at h2
theorem p_times (V : World) (x y : Nat) (hx : nDigits x ≤ 4000) (hy : nDigits y ≤ 4000) (h : nDigits (x * y) ≤ 4000) (hL : Lay V) : Calls Tryz.prog 85 #[.string (numB x), .string (numB y)] V fun e w' => e = .returned (.string (numB (x * y))) ∧ Below V.heap.size V w' := by
  have h2 := g_times V (numB x) (numB y) (numB_sz hx) (numB_sz hy) hL
  rwa [natB_num hx hy h] at h2
theorem p_cmp (V : World) (x y : Nat) (hx : nDigits x ≤ 4000) (hy : nDigits y ≤ 4000) : Calls Tryz.prog 49 #[.string (numB x), .string (numB y)] V fun e w' => e = .returned (.int .i64 (ordN x y)) ∧ Below V.heap.size V w' := by
  have h2 := n_Cmp V (numB x) (numB y) (numB_sz hx) (numB_sz hy)
  rwa [cmpN_num hx hy] at h2
theorem p_sub (V : World) (x y : Nat) (hx : nDigits x ≤ 4000) (hy : nDigits y ≤ 4000) (h : y ≤ x) (hL : Lay V) : Calls Tryz.prog 87 #[.string (numB x), .string (numB y)] V fun e w' => e = .returned (.tuple #[.string (numB (x - y)), .int .i64 0]) ∧ Below V.heap.size V w' := by
  have h2 := n_Sub V (numB x) (numB y) (numB_sz hx) (numB_sz hy) hL
  have h3 : ¬ 4000 < nDigits (x - y) := by have := nDigits_mono (show x - y ≤ x by omega); omega
  have e1 : pairB (subB (bN (numB x)) (bN (numB y))) (numB x) (numB y) = numB (x - y) := by
    rw [bN_num, bN_num, pairB, if_pos ⟨errN_numB hx, errN_numB hy⟩, subB, if_neg (by omega), resB, if_neg h3]
  have e2 : pairE (subE (bN (numB x)) (bN (numB y))) (numB x) (numB y) = 0 := by
    rw [bN_num, bN_num, pairE, if_pos (errN_numB hx), if_pos (errN_numB hy), subE, if_neg (by omega), resE, if_neg h3]
  rwa [e1, e2] at h2

theorem make_bools (n : Nat) (h : n ≤ 1000000) (W : World) : (Instr.makeSlice 124 (.int .i64 (n : Int)) (.int .i64 (n : Int))).run Tryz.prog W = .ok (.slice (some ⟨W.heap.size, 0, none⟩) n n) (W.alloc (.cells (madeCells #[.bool false] n) 4)) :=
  run_make_row' (P := Tryz.prog) 124 4 (.bool false) 1 Tryz.underlying124 (by kernel_rfl) rfl .i64 .i64 n (by omega) (by omega) W

theorem made_bools (f : Nat → Bool) (n : Nat) : madeCells #[.bool false] (n + 1) = (tabL f n 0).toArray := by
  rw [tabL_zero]
  apply Array.ext_getElem?
  intro i
  unfold madeCells
  by_cases hi : i < n + 1 <;> simp [hi, Nat.mod_one]

/-- Two rows of bools, in blocks of the call's own. -/
def TwoB (w : World) (H n : Nat) (v u : Value) (f g : List Value) : Prop := ∃ g1 g2, v = .slice (some ⟨g1, 0, none⟩) (n + 1) (n + 1) ∧ u = .slice (some ⟨g2, 0, none⟩) (n + 1) (n + 1) ∧ g1 ≠ g2 ∧ H ≤ g1 ∧ H ≤ g2 ∧ Blk w g1 f.toArray 4 ∧ Blk w g2 g.toArray 4

/-- What sides gives back. -/
def SidesOut (w : World) (n N D : Nat) (e : Ending) (w' : World) : Prop := ∃ v u, e = .returned (.tuple #[v, u]) ∧ TwoB w' w.heap.size n v u (allB (oneJ N D) n) (allB (zeroJ N D) n)

theorem lit_zero : ((⟨#[48]⟩ : ByteArray).toList == [48]) = true := by
  rw [Lib.toList_data]; rfl

set_option maxRecDepth 100000 in
set_option maxHeartbeats 4000000 in
theorem g_sides (w : World) (a : ByteArray) (n N D : Nat) (ha : a.size ≤ 100000) (he : gPE a = 0) (hn : n ≤ 1000) (hN : bN (cW a) = N) (hD : bN (qD a) = D) (hND : N < D) (hL : Lay w) :
    Calls Tryz.prog 122 #[.string a, .int .i64 n] w fun e w' => SidesOut w n N D e w' ∧ Below w.heap.size w w' := by
  have HR := hid (g_ratio w a ha hL)
  obtain ⟨c1, c2, c3, c4, -⟩ := cPE_ok (gPE_ok he).1
  rw [if_pos he, if_pos he, he] at HR
  rw [c1, c2, hN, hD] at HR
  rw [hN] at c3
  rw [hD] at c4
  have dN : ∀ x, x < 10 ^ (eN + 1) → nDigits x ≤ 4000 := fun x h => numB_small h (by omega) (by unfold eN; omega)
  have hM := fun W => hid (make_bools (n + 1) (by omega) W)
  have HL := hid hL; have HLL := hid hL.lt; have HND := hid hND; have DN := hid dN; have C4 := hid c4; have C3 := hid c3; have HN := hid hn
  have wn : IntKind.i64.wrap ((n : Int) + 1) = ((n + 1 : Nat) : Int) := by rw [IntWalk.i64_in _ ⟨by omega, by omega⟩]; omega
  obtain ⟨sN, hsN⟩ : ∃ s, numB N = s := ⟨_, rfl⟩
  obtain ⟨sD, hsD⟩ : ∃ s, numB D = s := ⟨_, rfl⟩
  rw [hsN, hsD] at HR
  have HSN := hid hsN; have HSD := hid hsD
  clear ha he hn hN hD hND hL c1 c2 c3 c4 dN hsN hsD
  go_enter Tryz.func122, Tryz.ntmps122
  go_wp2_with fail
  refine HR.out.mono ?_; rintro e w1 ⟨rfl, hb1⟩
  have B1 := hid hb1
  clear hb1 HR
  go_upto_region 2 with fail
  go_cut [4, 5] (fun s4 s5 wx => TwoB wx w.heap.size n s4 s5 (tabL (oneJ N D) n 0) (tabL (zeroJ N D) n 0) ∧ Below w.heap.size w wx)
  case first =>
    have X := fun (g1 g2 : Nat) (W : World) (h1 : Blk W g1 (madeCells #[.bool false] (n + 1)) 4) (h2 : Blk W g2 (madeCells #[.bool false] (n + 1)) 4) (h3 : g1 ≠ g2) (h4 : w.heap.size ≤ g1) (h5 : w.heap.size ≤ g2) => hid (show TwoB W w.heap.size n (.slice (some ⟨g1, 0, none⟩) (n + 1) (n + 1)) (.slice (some ⟨g2, 0, none⟩) (n + 1) (n + 1)) (tabL (oneJ N D) n 0) (tabL (zeroJ N D) n 0) from ⟨g1, g2, rfl, rfl, h3, h4, h5, by rw [← made_bools]; exact h1, by rw [← made_bools]; exact h2⟩)
    have M1 : ∀ W, (Instr.makeSlice 124 (.int .i64 ((n : Int) + 1)) (.int .i64 ((n : Int) + 1))).run Tryz.prog W = .ok (.slice (some ⟨W.heap.size, 0, none⟩) (n + 1) (n + 1)) (W.alloc (.cells (madeCells #[.bool false] (n + 1)) 4)) := fun W => (hM W).out
    clear hM
    go_region
    all_goals
      go_wp2_with fail
      go_meet
      first
        | exact ⟨(X w1.heap.size (w1.heap.size + 1) _ ((Blk.new w1 _ _).alloc _) (Blk.made _ _ _ (by simp)) (by omega) B1.out.size (by have := B1.out.size; omega)).out, (((B1.out.alloc B1.out.size _).alloc (by have := B1.out.size; simp; omega) _)).drew⟩
        | exact ⟨(X (w1.heap.size + 1) w1.heap.size _ (Blk.made _ _ _ (by simp)) ((Blk.new w1 _ _).alloc _) (by omega) (by have := B1.out.size; omega) B1.out.size).out, (((B1.out.alloc B1.out.size _).alloc (by have := B1.out.size; simp; omega) _)).drew⟩
  case rest =>
    obtain ⟨⟨g1, g2, rfl, rfl, h3, h4, h5, hb1, hb2⟩, hB⟩ := hcut
    have G1 := hid hb1; have G2 := hid hb2; have B2 := hid hB; have H3 := hid h3; have H4 := hid h4; have H5 := hid h5
    have k0 : wc.cell? ⟨g2, 0, none⟩ = some (.bool false) := by
      refine (hb2.cell 0).trans ?_
      rw [List.getElem?_toArray, tabL_get (Nat.zero_le _)]; simp
    have k1 := hb2.free 0
    have z0 : (0 : Int) < ((n + 1 : Nat) : Int) := by omega
    have z1 : (0 : Int) < (n : Int) + 1 := by omega
    obtain ⟨z, hz⟩ : ∃ z, (sN.toList == [48]) = z := ⟨_, rfl⟩
    have HZ : Hid (z = decide (N = 0)) := by
      show z = decide (N = 0)
      rw [← hz]
      by_cases h0 : N = 0
      · rw [← HSN.out, h0, numB_zero, lit_zero]; simp
      · rw [← HSN.out, ne_lit (l := [48]) (by rw [← numB_zero]; exact numB_ne h0)]
        simp [h0]
    clear hb1 hb2 hB hM h3 h4 h5
    go_wp2_with fail
    obtain ⟨W3, hW3⟩ : ∃ W, wc.setCell ⟨g2, 0, none⟩ (.bool z) = W := ⟨_, rfl⟩
    have G3 : Blk W3 g1 (tabL (oneJ N D) n 1).toArray 4 := by
      rw [← hW3, tabL_skip (f := oneJ N D) (j := 0) rfl]
      exact G1.out.other (fun e => H3.out e.symm) _
    have G4 : Blk W3 g2 (tabL (zeroJ N D) n 1).toArray 4 := by
      have h := G2.out.set 0 (.bool z)
      rw [hW3, List.setIfInBounds_toArray, HZ.out] at h
      have h2 := tabL_set (f := zeroJ N D) (n := n) (j := 0) (Nat.zero_le _)
      rw [← h2]
      exact h
    have B3 : Below w.heap.size w W3 := by rw [← hW3]; exact B2.out.setCell H5.out _
    rw [hW3]
    have HG3 := hid G3; have HG4 := hid G4; have HB3 := hid B3
    have e0 : Hid ((!z) = (sdx N D 0).2) := by show (!z) = _; rw [HZ.out]; simp [sdx]
    clear k0 k1 hz z0 z1 G3 G4 B3 hW3 G1 G2 B2 B1
    go_loopw [9, 10, 11] (fun o x j wr => ∃ i : Nat, j = .int .i64 ((i + 1 : Nat) : Int) ∧ i ≤ n ∧ o = .bool (sdx N D i).2 ∧ x = .string (numB (sdx N D i).1) ∧ Hid (Blk wr g1 (tabL (oneJ N D) n (i + 1)).toArray 4) ∧ Hid (Blk wr g2 (tabL (zeroJ N D) n (i + 1)).toArray 4) ∧ Hid (Below w.heap.size w wr)) (fun o x j wr => n + 1 - (intOf j).toNat)
    case atStart => exact ⟨0, rfl, Nat.zero_le _, by rw [e0.out], by rw [HSN.out.symm]; rfl, HG3.out, HG4.out, HB3.out⟩
    case round =>
      obtain ⟨i, rfl, hi, rfl, rfl, hg1, hg2, hB⟩ := hrel
      cases ho : (sdx N D i).2
      · have GG1 : Blk wr g1 (allB (oneJ N D) n).toArray 4 := by
          rw [← tabL_full (oneJ N D) n (j := n + 1) (by omega), tabL_shut (j := i + 1) (fun k hk => oneJ_shut ho k (by omega)) (n + 1) (by omega)]
          exact hg1.out
        have GG2 : Blk wr g2 (allB (zeroJ N D) n).toArray 4 := by
          rw [← tabL_full (zeroJ N D) n (j := n + 1) (by omega), tabL_shut (j := i + 1) (fun k hk => zeroJ_shut ho k (by omega)) (n + 1) (by omega)]
          exact hg2.out
        have GG1 := hid GG1; have GG2 := hid GG2
        clear ho hi
        go_wp2_with fail
        all_goals
          go_ret2
          exact ⟨⟨_, _, rfl, ⟨g1, g2, rfl, rfl, H3.out, H4.out, H5.out, GG1.out, GG2.out⟩⟩, hB.out⟩
      · by_cases hlt : i + 1 ≤ n
        · obtain ⟨X, hX⟩ : ∃ X, (sdx N D i).1 = X := ⟨_, rfl⟩
          have hXD : X < D := hX ▸ sdx_lt HND.out i
          have hs : sdx N D (i + 1) = if D ≤ 2 * X then (2 * X - D, decide (2 * X ≠ D)) else (2 * X, true) := by rw [sdx, if_pos ho, hX]
          have h1 : oneJ N D (i + 1) = decide (D ≤ 2 * X) := by rw [oneJ, ho, hX]; rfl
          have h0 : zeroJ N D (i + 1) = decide (2 * X ≤ D) := by rw [zeroJ, ho, hX]; rfl
          have p10 : (10 : Nat) ^ (eN + 1) = 10 * 10 ^ eN := by rw [Nat.pow_succ, Nat.mul_comm]
          have q10 := C4.out
          have d1 : nDigits X ≤ 4000 := DN.out X (by omega)
          have d2 : nDigits (X + X) ≤ 4000 := DN.out _ (by omega)
          have d3 : nDigits D ≤ 4000 := DN.out _ (by omega)
          have HPL := fun V hV => hid (p_plus V X X d1 d1 d2 hV)
          have HCM := fun V => hid (p_cmp V (X + X) D d2 d3)
          rw [HSD.out] at HCM
          rw [hX]
          have k1 : wr.cell? ⟨g1, i + 1, none⟩ = some (.bool false) := by
            refine (hg1.out.cell (i + 1)).trans ?_
            rw [List.getElem?_toArray, tabL_get hlt]; simp
          have k2 : wr.cell? ⟨g2, i + 1, none⟩ = some (.bool false) := by
            refine (hg2.out.cell (i + 1)).trans ?_
            rw [List.getElem?_toArray, tabL_get hlt]; simp
          have f0 : (0 : Int) ≤ ((i + 1 : Nat) : Int) := by omega
          have f1 : ((i + 1 : Nat) : Int) < ((n + 1 : Nat) : Int) := by omega
          have f2 : decide (((i + 1 : Nat) : Int) ≤ (n : Int)) = true := by simp; omega
          have f3 : ((i + 1 : Nat) : Int) ≤ 1000 := by have := HN.out; omega
          have f4 : (i : Int) ≤ 1000 := by have := HN.out; omega
          have HLT := hid hlt
          rcases Nat.lt_trichotomy (X + X) D with hc | hc | hc
          · rw [ordN_lt hc] at HCM
            have HS := hid (show sdx N D (i + 1) = (X + X, true) from by rw [hs, if_neg (by omega), Nat.two_mul])
            have T1 := hid (tabL_skip (n := n) (show oneJ N D (i + 1) = false from by rw [h1]; simp; omega))
            have T0 := hid (tabL_set (f := zeroJ N D) hlt)
            have HZ0 := hid (show zeroJ N D (i + 1) = true from by rw [h0]; simp; omega)
            clear hc hs h1 h0 p10 q10 d1 d2 d3 hX hXD ho hi
            go_wp2_with fail
            refine (HPL _ (HL.out.below hB.out HLL.out)).out.mono ?_; rintro e w5 ⟨rfl, hb5⟩
            have G15 := hid (hg1.out.call hb5); have G25 := hid (hg2.out.call hb5); have B5 := hid (hB.out.trans (hb5.mono hB.out.size))
            clear hb5
            go_wp2_with fail
            refine (HCM _).out.mono ?_; rintro e w6 ⟨rfl, hb6⟩
            have G16 := hid (G15.out.call hb6); have G26 := hid (G25.out.call hb6); have B6 := hid (B5.out.trans (hb6.mono B5.out.size))
            have m1 : w6.cell? ⟨g1, i + 1, none⟩ = some (.bool false) := by
              refine (G16.out.cell (i + 1)).trans ?_
              rw [List.getElem?_toArray, tabL_get hlt]; simp
            have m2 : w6.cell? ⟨g2, i + 1, none⟩ = some (.bool false) := by
              refine (G26.out.cell (i + 1)).trans ?_
              rw [List.getElem?_toArray, tabL_get hlt]; simp
            have m3 := G16.out.free (i + 1)
            have m4 := G26.out.free (i + 1)
            clear hb6 hlt k1 k2
            go_wp2_with fail
            go_roundw
            case rel =>
              refine ⟨i + 1, by go_num, HLT.out, by rw [HS.out], by rw [HS.out], ?_, ?_, B6.out.setCell H5.out _⟩
              · show Blk _ _ _ _
                rw [T1.out]
                exact G16.out.other (fun e => H3.out e.symm) _
              · show Blk _ _ _ _
                rw [← T0.out, HZ0.out]
                have h := G26.out.set (i + 1) (.bool true)
                rw [List.setIfInBounds_toArray] at h
                exact h
            case measure => simp [intOf] <;> (have := HLT.out; omega)
          · rw [show ordN (X + X) D = 0 from by rw [hc, ordN_eq]] at HCM
            have hle : D ≤ X + X := by omega
            have HSU := fun V hV => hid (p_sub V (X + X) D d2 d3 hle hV)
            rw [HSD.out] at HSU
            have HS := hid (show sdx N D (i + 1) = (X + X - D, false) from by rw [hs, if_pos (by omega), Nat.two_mul]; simp; omega)
            have T1 := hid (tabL_set (f := oneJ N D) hlt)
            have HZ1 := hid (show oneJ N D (i + 1) = true from by rw [h1]; simp; omega)
            have T0 := hid (tabL_set (f := zeroJ N D) hlt)
            have HZ0 := hid (show zeroJ N D (i + 1) = true from by rw [h0]; simp; omega)
            clear hc hs h1 h0 p10 q10 d1 d2 d3 hX hXD ho hi hle
            go_wp2_with fail
            refine (HPL _ (HL.out.below hB.out HLL.out)).out.mono ?_; rintro e w5 ⟨rfl, hb5⟩
            have G15 := hid (hg1.out.call hb5); have G25 := hid (hg2.out.call hb5); have B5 := hid (hB.out.trans (hb5.mono hB.out.size))
            clear hb5
            go_wp2_with fail
            refine (HCM _).out.mono ?_; rintro e w6 ⟨rfl, hb6⟩
            have G16 := hid (G15.out.call hb6); have G26 := hid (G25.out.call hb6); have B6 := hid (B5.out.trans (hb6.mono B5.out.size))
            have m1 : w6.cell? ⟨g1, i + 1, none⟩ = some (.bool false) := by
              refine (G16.out.cell (i + 1)).trans ?_
              rw [List.getElem?_toArray, tabL_get hlt]; simp
            have m2 : w6.cell? ⟨g2, i + 1, none⟩ = some (.bool false) := by
              refine (G26.out.cell (i + 1)).trans ?_
              rw [List.getElem?_toArray, tabL_get hlt]; simp
            have m3 := G16.out.free (i + 1)
            have m4 := G26.out.free (i + 1)
            clear hb6 hlt k1 k2
            go_wp2_with fail
            refine (HSU _ (HL.out.below B6.out HLL.out)).out.mono ?_; rintro e w7 ⟨rfl, hb7⟩
            have G17 := hid (G16.out.call hb7); have G27 := hid (G26.out.call hb7); have B7 := hid (B6.out.trans (hb7.mono B6.out.size))
            have n1 := (hb7.cell (cell_lt m1)).trans m1
            have n3 := G17.out.free (i + 1)
            have n2 : (w7.setCell ⟨g1, i + 1, none⟩ (.bool true)).cell? ⟨g2, i + 1, none⟩ = some (.bool false) := ((G27.out.other (fun e => H3.out e) (.bool true)).cell (i + 1)).trans (by rw [List.getElem?_toArray, tabL_get HLT.out]; simp)
            have n4 : (w7.setCell ⟨g1, i + 1, none⟩ (.bool true)).frozen? ⟨g2, i + 1, none⟩ = false := (G27.out.other (a := ⟨g1, i + 1, none⟩) (fun e => H3.out e) (.bool true)).free (i + 1)
            clear hb7 m1 m2 m3 m4
            go_wp2_with fail
            go_roundw
            case rel =>
              refine ⟨i + 1, by go_num, HLT.out, by rw [HS.out], by rw [HS.out], ?_, ?_, ((B7.out.setCell H4.out _).setCell H5.out _)⟩
              · show Blk _ _ _ _
                rw [← T1.out, HZ1.out]
                have h := (G17.out.set (i + 1) (.bool true)).other (a := ⟨g2, i + 1, none⟩) (fun e => H3.out e.symm) (.bool true)
                rw [List.setIfInBounds_toArray] at h
                exact h
              · show Blk _ _ _ _
                rw [← T0.out, HZ0.out]
                have h := (G27.out.other (a := ⟨g1, i + 1, none⟩) (fun e => H3.out e) (.bool true)).set (i + 1) (.bool true)
                rw [List.setIfInBounds_toArray] at h
                exact h
            case measure => simp [intOf] <;> (have := HLT.out; omega)
          · rw [ordN_gt hc] at HCM
            have hle : D ≤ X + X := by omega
            have HSU := fun V hV => hid (p_sub V (X + X) D d2 d3 hle hV)
            rw [HSD.out] at HSU
            have HS := hid (show sdx N D (i + 1) = (X + X - D, true) from by rw [hs, if_pos (by omega), Nat.two_mul]; simp; omega)
            have T1 := hid (tabL_set (f := oneJ N D) hlt)
            have HZ1 := hid (show oneJ N D (i + 1) = true from by rw [h1]; simp; omega)
            have T0 := hid (tabL_set (f := zeroJ N D) hlt)
            have HZ0 := hid (show zeroJ N D (i + 1) = false from by rw [h0]; simp; omega)
            clear hc hs h1 h0 p10 q10 d1 d2 d3 hX hXD ho hi hle
            go_wp2_with fail
            refine (HPL _ (HL.out.below hB.out HLL.out)).out.mono ?_; rintro e w5 ⟨rfl, hb5⟩
            have G15 := hid (hg1.out.call hb5); have G25 := hid (hg2.out.call hb5); have B5 := hid (hB.out.trans (hb5.mono hB.out.size))
            clear hb5
            go_wp2_with fail
            refine (HCM _).out.mono ?_; rintro e w6 ⟨rfl, hb6⟩
            have G16 := hid (G15.out.call hb6); have G26 := hid (G25.out.call hb6); have B6 := hid (B5.out.trans (hb6.mono B5.out.size))
            have m1 : w6.cell? ⟨g1, i + 1, none⟩ = some (.bool false) := by
              refine (G16.out.cell (i + 1)).trans ?_
              rw [List.getElem?_toArray, tabL_get hlt]; simp
            have m2 : w6.cell? ⟨g2, i + 1, none⟩ = some (.bool false) := by
              refine (G26.out.cell (i + 1)).trans ?_
              rw [List.getElem?_toArray, tabL_get hlt]; simp
            have m3 := G16.out.free (i + 1)
            have m4 := G26.out.free (i + 1)
            clear hb6 hlt k1 k2
            go_wp2_with fail
            refine (HSU _ (HL.out.below B6.out HLL.out)).out.mono ?_; rintro e w7 ⟨rfl, hb7⟩
            have G17 := hid (G16.out.call hb7); have G27 := hid (G26.out.call hb7); have B7 := hid (B6.out.trans (hb7.mono B6.out.size))
            have n1 := (hb7.cell (cell_lt m1)).trans m1
            have n3 := G17.out.free (i + 1)
            have n2 : (w7.setCell ⟨g1, i + 1, none⟩ (.bool true)).cell? ⟨g2, i + 1, none⟩ = some (.bool false) := ((G27.out.other (fun e => H3.out e) (.bool true)).cell (i + 1)).trans (by rw [List.getElem?_toArray, tabL_get HLT.out]; simp)
            have n4 : (w7.setCell ⟨g1, i + 1, none⟩ (.bool true)).frozen? ⟨g2, i + 1, none⟩ = false := (G27.out.other (a := ⟨g1, i + 1, none⟩) (fun e => H3.out e) (.bool true)).free (i + 1)
            clear hb7 m1 m2 m3 m4
            go_wp2_with fail
            go_roundw
            case rel =>
              refine ⟨i + 1, by go_num, HLT.out, by rw [HS.out], by rw [HS.out], ?_, ?_, ((B7.out.setCell H4.out _).setCell H5.out _)⟩
              · show Blk _ _ _ _
                rw [← T1.out, HZ1.out]
                have h := (G17.out.set (i + 1) (.bool true)).other (a := ⟨g2, i + 1, none⟩) (fun e => H3.out e.symm) (.bool false)
                rw [List.setIfInBounds_toArray] at h
                exact h
              · show Blk _ _ _ _
                rw [← T0.out, HZ0.out]
                have h := (G27.out.other (a := ⟨g1, i + 1, none⟩) (fun e => H3.out e) (.bool true)).set (i + 1) (.bool false)
                rw [List.setIfInBounds_toArray] at h
                exact h
            case measure => simp [intOf] <;> (have := HLT.out; omega)
        · have e1 : i = n := by omega
          subst e1
          have f2 : decide (((i + 1 : Nat) : Int) ≤ (i : Int)) = false := by simp; omega
          have GG1 : Blk wr g1 (allB (oneJ N D) i).toArray 4 := by
            rw [← tabL_full (oneJ N D) i (j := i + 1) (by omega)]
            exact hg1.out
          have GG2 : Blk wr g2 (allB (zeroJ N D) i).toArray 4 := by
            rw [← tabL_full (zeroJ N D) i (j := i + 1) (by omega)]
            exact hg2.out
          have GG1 := hid GG1; have GG2 := hid GG2
          clear ho hi hlt
          go_wp2_with fail
          go_ret2
          exact ⟨⟨_, _, rfl, ⟨g1, g2, rfl, rfl, H3.out, H4.out, H5.out, GG1.out, GG2.out⟩⟩, hB.out⟩
end Go.Proofs.YtikfgddgfddbaaaGreatDoor

/- Plain words: the tables of totals, as the program fills them. No program in sight. -/
namespace Go.Proofs.YtikfgddgfddbaaaGreatDoor
open Go.RowKit
open Go.Lib (decDigits nDigits)

/-- A row of texts of numbers. -/
def numL (l : List Nat) : List Value := l.map fun n => .string (numB n)
@[simp] theorem numL_length (l : List Nat) : (numL l).length = l.length := by simp [numL]
theorem numL_get {l : List Nat} {i : Nat} (h : i < l.length) : (numL l)[i]? = some (.string (numB (l.getD i 0))) := by
  simp [numL, List.getD_eq_getElem?_getD, List.getElem?_eq_getElem h]
theorem numL_set (l : List Nat) (i x : Nat) : (numL l).set i (.string (numB x)) = numL (l.set i x) := by simp [numL, List.map_set]

/-- x is added at the place k, if c. -/
def addAt (c : Bool) (k x : Nat) (l : List Nat) : List Nat := if c = true then l.set k (l.getD k 0 + x) else l
theorem addAt_length (c : Bool) (k x : Nat) (l : List Nat) : (addAt c k x l).length = l.length := by unfold addAt; split <;> simp
theorem addAt_false (k x : Nat) (l : List Nat) : addAt false k x l = l := rfl
theorem addAt_true (k x : Nat) (l : List Nat) : addAt true k x l = l.set k (l.getD k 0 + x) := rfl
theorem addAt_get (c : Bool) {k x : Nat} {l : List Nat} (hk : k < l.length) (i : Nat) : (addAt c k x l).getD i 0 = l.getD i 0 + (if c = true ∧ i = k then x else 0) := by
  cases c
  · rw [addAt_false]; simp
  · rw [addAt_true, List.getD_eq_getElem?_getD, List.getD_eq_getElem?_getD, List.getElem?_set]
    by_cases h : k = i
    · subst h; simp [hk, List.getD_eq_getElem?_getD]
    · simp [h, show ¬ i = k from fun e => h e.symm]

/-- One step: the source i, j bits further. -/
def tStep (os zs : Nat → Bool) (i j : Nat) (s : List Nat × List Nat) : List Nat × List Nat := (addAt (os j) (i + j) (s.1.getD i 0) s.1, addAt (zs j) (i + j) (s.1.getD i 0) s.2)
def tIn (os zs : Nat → Bool) (i : Nat) : Nat → List Nat × List Nat → List Nat × List Nat
  | 0, s => s
  | j + 1, s => tStep os zs i j (tIn os zs i j s)
def tOut (os zs : Nat → Bool) (n : Nat) : Nat → List Nat × List Nat
  | 0 => (1 :: List.replicate n 0, List.replicate (n + 1) 0)
  | i + 1 => if (tOut os zs n i).1.getD i 0 = 0 then tOut os zs n i else tIn os zs i (n + 1 - i) (tOut os zs n i)

/-- The bounds on the way. -/
structure TB (n i j : Nat) (s : List Nat × List Nat) : Prop where
  l1 : s.1.length = n + 1
  l2 : s.2.length = n + 1
  up1 : ∀ k, s.1.getD k 0 ≤ 2 ^ (i + 1)
  up2 : ∀ k, s.2.getD k 0 ≤ 2 ^ (i + 1)
  hi1 : ∀ k, i + j ≤ k → s.1.getD k 0 ≤ 2 ^ i
  hi2 : ∀ k, i + j ≤ k → s.2.getD k 0 ≤ 2 ^ i
  src : s.1.getD i 0 ≤ 2 ^ i

theorem TB.step {os zs : Nat → Bool} (h0 : os 0 = false) {n i j : Nat} {s : List Nat × List Nat} (h : TB n i j s) (hij : i + j ≤ n) : TB n i (j + 1) (tStep os zs i j s) ∧ (tStep os zs i j s).1.getD i 0 = s.1.getD i 0 := by
  have e1 := addAt_get (os j) (x := s.1.getD i 0) (show i + j < s.1.length by rw [h.l1]; omega)
  have e2 := addAt_get (zs j) (x := s.1.getD i 0) (show i + j < s.2.length by rw [h.l2]; omega)
  have p : 2 ^ (i + 1) = 2 ^ i + 2 ^ i := by rw [Nat.pow_succ]; omega
  have hs := h.src
  have h3 : (tStep os zs i j s).1.getD i 0 = s.1.getD i 0 := by
    show (addAt _ _ _ _).getD _ _ = _
    rw [e1]
    rw [if_neg]
    · omega
    · rintro ⟨h1, h2⟩
      rw [show j = 0 by omega, h0] at h1
      cases h1
  refine ⟨⟨by show (addAt _ _ _ _).length = _; rw [addAt_length, h.l1], by show (addAt _ _ _ _).length = _; rw [addAt_length, h.l2], fun k => ?_, fun k => ?_, fun k hk => ?_, fun k hk => ?_, by rw [h3]; exact hs⟩, h3⟩
  · show (addAt _ _ _ _).getD _ _ ≤ _
    rw [e1]
    have := h.up1 k
    split
    · rename_i hc
      have := h.hi1 k (by omega)
      omega
    · omega
  · show (addAt _ _ _ _).getD _ _ ≤ _
    rw [e2]
    have := h.up2 k
    split
    · rename_i hc
      have := h.hi2 k (by omega)
      omega
    · omega
  · show (addAt _ _ _ _).getD _ _ ≤ _
    rw [e1, if_neg (by omega)]
    exact h.hi1 k (by omega)
  · show (addAt _ _ _ _).getD _ _ ≤ _
    rw [e2, if_neg (by omega)]
    exact h.hi2 k (by omega)

theorem TB.inner {os zs : Nat → Bool} (h0 : os 0 = false) {n i : Nat} {s : List Nat × List Nat} (h : TB n i 0 s) : ∀ j, i + j ≤ n + 1 → TB n i j (tIn os zs i j s) ∧ (tIn os zs i j s).1.getD i 0 = s.1.getD i 0
  | 0, _ => ⟨h, rfl⟩
  | j + 1, hj => by
    obtain ⟨h1, h2⟩ := TB.inner h0 h j (by omega)
    obtain ⟨h3, h4⟩ := TB.step h0 (os := os) (zs := zs) h1 (by omega)
    exact ⟨h3, h4.trans h2⟩

theorem TB.next {n i j : Nat} {s : List Nat × List Nat} (h : TB n i j s) : TB n (i + 1) 0 s := by
  have p : 2 ^ (i + 1) ≤ 2 ^ (i + 1 + 1) := Nat.pow_le_pow_right (by omega) (by omega)
  exact ⟨h.l1, h.l2, fun k => Nat.le_trans (h.up1 k) p, fun k => Nat.le_trans (h.up2 k) p, fun k _ => h.up1 k, fun k _ => h.up2 k, h.up1 _⟩

theorem TB.outer {os zs : Nat → Bool} (h0 : os 0 = false) (n : Nat) : ∀ i, i ≤ n + 1 → TB n i 0 (tOut os zs n i)
  | 0, _ => by
    have e1 : ∀ k, (1 :: List.replicate n 0).getD k 0 ≤ 1 := fun k => by
      cases k with
      | zero => simp
      | succ k =>
        rw [List.getD_cons_succ, List.getD_eq_getElem?_getD, List.getElem?_replicate]
        split <;> simp
    have e2 : ∀ k, (List.replicate (n + 1) 0).getD k 0 ≤ 1 := fun k => by
      rw [List.getD_eq_getElem?_getD, List.getElem?_replicate]
      split <;> simp
    refine ⟨by simp [tOut], by simp [tOut], fun k => Nat.le_trans (e1 k) (by simp), fun k => Nat.le_trans (e2 k) (by simp), fun k _ => e1 k, fun k _ => e2 k, e1 _⟩
  | i + 1, hi => by
    have ih := TB.outer h0 (zs := zs) n i (by omega)
    rw [tOut]
    split
    · exact ih.next
    · exact (TB.inner h0 ih (n + 1 - i) (by omega)).1.next

theorem two_pow_digits {x i : Nat} (h : x ≤ 2 ^ i) (hi : i ≤ 3000) : nDigits x ≤ 4000 := by
  refine Nat.le_trans (nDigits_mono h) ?_
  have h1 : 2 ^ i < 10 ^ (i + 1) := by
    have h2 : 2 ^ i ≤ 10 ^ i := Nat.pow_le_pow_left (by omega) i
    have h3 : 10 ^ i < 10 ^ (i + 1) := Nat.pow_lt_pow_right (by omega) (by omega)
    omega
  exact Nat.le_trans (nDigits_le (Nat.succ_pos i) h1) (by omega)
end Go.Proofs.YtikfgddgfddbaaaGreatDoor

/- Walks: geom.totals. -/
namespace Go.Proofs.YtikfgddgfddbaaaGreatDoor
open Go.RowKit
open Go.Lib (decDigits nDigits)
set_option linter.unusedVariables false
set_option linter.unusedSimpArgs false

/-- Rows of numbers' texts. -/
def NRow (w : World) (g : Nat) (l : List Nat) : Prop := Blk w g (numL l).toArray 22
theorem NRow.cell {w : World} {g : Nat} {l : List Nat} (h : NRow w g l) {i : Nat} (hi : i < l.length) : w.cell? ⟨g, i, none⟩ = some (.string (numB (l.getD i 0))) := by
  refine (Blk.cell h i).trans ?_
  rw [List.getElem?_toArray, numL_get hi]
theorem NRow.free {w : World} {g : Nat} {l : List Nat} (h : NRow w g l) (i : Nat) : w.frozen? ⟨g, i, none⟩ = false := Blk.free h i
theorem NRow.set {w : World} {g : Nat} {l : List Nat} (h : NRow w g l) (i x : Nat) : NRow (w.setCell ⟨g, i, none⟩ (.string (numB x))) g (l.set i x) := by
  have := Blk.set h i (.string (numB x))
  rw [List.setIfInBounds_toArray, numL_set] at this
  exact this
theorem NRow.call {w w' : World} {g : Nat} {l : List Nat} (h : NRow w g l) (hb : Below w.heap.size w w') : NRow w' g l := Blk.call h hb
theorem NRow.other {w : World} {g : Nat} {l : List Nat} (h : NRow w g l) {a : Addr} (ha : a.block ≠ g) (v : Value) : NRow (w.setCell a v) g l := Blk.other h ha v
theorem NRow.zeros {w : World} {g n : Nat} (h : Blk w g (strs (List.replicate n ⟨#[48]⟩)).toArray 22) : NRow w g (List.replicate n 0) := by
  have e : numL (List.replicate n 0) = strs (List.replicate n ⟨#[48]⟩) := by
    unfold numL strs
    rw [List.map_replicate, List.map_replicate, numB_zero]
  unfold NRow
  rw [e]; exact h

/-- What totals gives back. -/
def TotOut (w : World) (n N D : Nat) (e : Ending) (w' : World) : Prop := ∃ g, e = .returned (.slice (some ⟨g, 0, none⟩) (n + 1) (n + 1)) ∧ w.heap.size ≤ g ∧ NRow w' g (tOut (oneJ N D) (zeroJ N D) n (n + 1)).2

theorem num_neq (x : Nat) : (!((numB x).toList == [48])) = !decide (x = 0) := by
  by_cases h : x = 0
  · rw [h, numB_zero, lit_zero]; simp
  · rw [ne_lit (l := [48]) (by rw [← numB_zero]; exact numB_ne h)]; simp [h]

set_option maxRecDepth 100000 in
set_option maxHeartbeats 8000000 in
theorem g_totals (w : World) (a : ByteArray) (n N D : Nat) (ha : a.size ≤ 100000) (he : gPE a = 0) (hn : n ≤ 1000) (hN : bN (cW a) = N) (hD : bN (qD a) = D) (hND : N < D) (hL : Lay w) :
    Calls Tryz.prog 82 #[.string a, .int .i64 n] w fun e w' => TotOut w n N D e w' ∧ Below w.heap.size w w' := by
  have HS := hid (g_sides w a n N D ha he hn hN hD hND hL)
  have HR := fun V g h => hid (s_Repeat V g (n + 1) ⟨#[48]⟩ (by omega) (by omega) h)
  have HL := hid hL; have HLL := hid hL.lt; have HN := hid hn
  have wn : IntKind.i64.wrap ((n : Int) + 1) = ((n + 1 : Nat) : Int) := by rw [IntWalk.i64_in _ ⟨by omega, by omega⟩]; omega
  have h00 := hid (show oneJ N D 0 = false from rfl)
  obtain ⟨os, hos⟩ : ∃ f, oneJ N D = f := ⟨_, rfl⟩
  obtain ⟨zs, hzs⟩ : ∃ f, zeroJ N D = f := ⟨_, rfl⟩
  have HOS := hid hos; have HZS := hid hzs
  rw [hos] at h00
  clear ha he hn hN hD hND hL hos hzs
  go_enter Tryz.func82, Tryz.ntmps82
  go_wp2_with fail
  refine HS.out.mono ?_; rintro e w1 ⟨⟨v1, v2, rfl, ⟨g1, g2, rfl, rfl, h3, h4, h5, hg1, hg2⟩⟩, hb1⟩
  rw [HOS.out] at hg1
  rw [HZS.out] at hg2
  have G1 := hid hg1; have G2 := hid hg2; have B1 := hid hb1; have K1 := hid h4; have K2 := hid h5
  clear hg1 hg2 hb1 h3 h4 h5 HS
  go_wp2_with fail
  refine (HR _ _ ((Blk.new w1 _ _).cell 0)).out.mono ?_; rintro e w2 ⟨rfl, hg7, hb2⟩
  obtain ⟨g7, h7⟩ : ∃ g, (w1.alloc (.cells #[.string ⟨#[48]⟩] 22)).heap.size = g := ⟨_, rfl⟩
  rw [h7] at hg7 ⊢
  have R7 := hid (NRow.zeros hg7)
  have a1 := (Below.refl w1.heap.size w1).alloc (Nat.le_refl _) (.cells #[.string ⟨#[48]⟩] 22)
  have b2 := hid (bnext a1 hb2)
  have K7 := hid (show w1.heap.size < g7 by rw [← h7]; simp)
  have B2 := hid (B1.out.trans (b2.out.mono B1.out.size)); have G12 := hid (G1.out.call b2.out); have G22 := hid (G2.out.call b2.out)
  have L7 := hid (show g7 < w2.heap.size from Blk.lt hg7)
  clear hg7 hb2 a1 h7
  go_wp2_with fail
  refine (HR _ _ ((Blk.new w2 _ _).cell 0)).out.mono ?_; rintro e w3 ⟨rfl, hg8, hb3⟩
  obtain ⟨g8, h8⟩ : ∃ g, (w2.alloc (.cells #[.string ⟨#[48]⟩] 22)).heap.size = g := ⟨_, rfl⟩
  rw [h8] at hg8 ⊢
  have R8 := hid (NRow.zeros hg8)
  have a2 := (Below.refl w2.heap.size w2).alloc (Nat.le_refl _) (.cells #[.string ⟨#[48]⟩] 22)
  have b3 := hid (bnext a2 hb3)
  have K8 := hid (show w2.heap.size < g8 by rw [← h8]; simp)
  have B3 := hid (B2.out.trans (b3.out.mono B2.out.size)); have G13 := hid (G12.out.call b3.out); have G23 := hid (G22.out.call b3.out); have R73 := hid (R7.out.call b3.out)
  have N1 := hid (show g1 < w1.heap.size from Blk.lt G1.out); have N2 := hid (show g2 < w1.heap.size from Blk.lt G2.out)
  have z12 := hid b2.out.size; have zw1 := hid B1.out.size
  clear hg8 hb3 a2 h8 HR
  have k0 : w3.cell? ⟨g7, 0, none⟩ = some (.string ⟨#[48]⟩) := by
    refine (R73.out.cell (i := 0) (by simp)).trans ?_
    rw [← numB_zero]; simp [List.getD_eq_getElem?_getD]
  have k1 := R73.out.free 0
  have z0 : (0 : Int) < ((n + 1 : Nat) : Int) := by omega
  have z1 : (0 : Int) < (n : Int) + 1 := by omega
  go_wp2_with fail
  have X7 : Hid (7 = 7) := rfl
  have hne : g7 ≠ g8 := by have := L7.out; have := K8.out; omega
  obtain ⟨W3, hW3⟩ : ∃ W, w3.setCell ⟨g7, 0, none⟩ (.string ⟨#[49]⟩) = W := ⟨_, rfl⟩
  have S7 : NRow W3 g7 (tOut os zs n 0).1 := by
    rw [← hW3, ← numB_one]
    have h := R73.out.set 0 1
    rw [show (List.replicate (n + 1) 0).set 0 1 = 1 :: List.replicate n 0 by rw [List.replicate_succ]; rfl] at h
    exact h
  have S8 : NRow W3 g8 (tOut os zs n 0).2 := by rw [← hW3]; exact R8.out.other hne _
  have S1 : Blk W3 g1 (allB os n).toArray 4 := by rw [← hW3]; exact G13.out.other (by have := K7.out; have := N1.out; simp; omega) _
  have S2 : Blk W3 g2 (allB zs n).toArray 4 := by rw [← hW3]; exact G23.out.other (by have := K7.out; have := N2.out; simp; omega) _
  have SB : Below w.heap.size w W3 := by rw [← hW3]; exact B3.out.setCell (by have := K7.out; have := zw1.out; simp; omega) _
  rw [hW3]
  have T7 := hid S7; have T8 := hid S8; have T1 := hid S1; have T2 := hid S2; have TBl := hid SB; have NE := hid hne
  have Q7 := hid (show w.heap.size ≤ g7 by have := K7.out; have := zw1.out; omega); have Q8 := hid (show w.heap.size ≤ g8 by have := K7.out; have := K8.out; have := L7.out; have := zw1.out; omega)
  have M17 := hid (show g1 ≠ g7 by have := K7.out; have := N1.out; omega); have M18 := hid (show g1 ≠ g8 by have := K7.out; have := K8.out; have := L7.out; have := N1.out; omega)
  have M27 := hid (show g2 ≠ g7 by have := K7.out; have := N2.out; omega); have M28 := hid (show g2 ≠ g8 by have := K7.out; have := K8.out; have := L7.out; have := N2.out; omega)
  clear k0 k1 z0 z1 S7 S8 S1 S2 SB hne hW3 X7 R73 R8 G13 G23 B3 b3 R7 G12 G22 B2 b2 G1 G2 B1 K7 K8 L7 z12 zw1 N1 N2
  go_loopw [29] (fun ii wr => ∃ i : Nat, ii = .int .i64 (i : Nat) ∧ i ≤ n + 1 ∧ Hid (NRow wr g7 (tOut os zs n i).1) ∧ Hid (NRow wr g8 (tOut os zs n i).2) ∧ Hid (Blk wr g1 (allB os n).toArray 4) ∧ Hid (Blk wr g2 (allB zs n).toArray 4) ∧ Hid (Below w.heap.size w wr)) (fun ii wr => n + 1 - (intOf ii).toNat)
  case atStart => exact ⟨0, rfl, Nat.zero_le _, T7.out, T8.out, T1.out, T2.out, TBl.out⟩
  case round =>
    obtain ⟨i, rfl, hi, hg7, hg8, hg1, hg2, hB⟩ := hrel
    by_cases hlt : i < n + 1
    · have q0 : decide ((i : Int) < ((n + 1 : Nat) : Int)) = true := by simp; omega
      have f0 : (0 : Int) ≤ (i : Int) := by omega
      have f1 : (i : Int) < ((n + 1 : Nat) : Int) := by omega
      have f2 : (i : Int) ≤ 1000 := by have := HN.out; omega
      have IL := hid hlt
      have TBI := hid (TB.outer (os := os) (zs := zs) h00.out n i hi)
      clear hi hlt
      go_wp2_with fail
      obtain ⟨x, hx⟩ : ∃ x, (tOut os zs n i).1.getD i 0 = x := ⟨_, rfl⟩
      obtain ⟨wo, rfl⟩ : ∃ wo : World, wo = wr := ⟨_, rfl⟩
      by_cases hx0 : x = 0
      · have k0 : wo.cell? ⟨g7, i, none⟩ = some (.string (numB x)) := by rw [← hx]; exact hg7.out.cell (by rw [TBI.out.l1]; exact IL.out)
        have q1 : ((numB x).toList == [48]) = true := by rw [hx0, numB_zero]; exact lit_zero
        have hnext := hid (show tOut os zs n (i + 1) = tOut os zs n i from by rw [tOut, if_pos (by rw [hx]; exact hx0)])
        obtain ⟨sx, hsx⟩ : ∃ s, numB x = s := ⟨_, rfl⟩
        rw [hsx] at k0 q1
        clear hx hx0 hsx
        go_loopw [10] (fun jj wq => jj = .int .i64 0 ∧ wq = wo) (fun jj wq => 0)
        case atStart => exact ⟨rfl, rfl⟩
        case round =>
          obtain ⟨rfl, rfl⟩ := hrel
          go_wp2_with fail
          go_roundw
          case rel => exact ⟨i + 1, by go_num, by have := IL.out; omega, by rw [hnext.out]; exact hg7, by rw [hnext.out]; exact hg8, hg1, hg2, hB⟩
          case measure => simp [intOf] <;> (have := IL.out; omega)
      · have q1 : ((numB x).toList == [48]) = false := ne_lit (l := [48]) (by rw [← numB_zero]; exact numB_ne hx0)
        have hnext := hid (show tOut os zs n (i + 1) = tIn os zs i (n + 1 - i) (tOut os zs n i) from by rw [tOut, if_neg (by rw [hx]; exact hx0)])
        obtain ⟨s0, hs0⟩ : ∃ s, tOut os zs n i = s := ⟨_, rfl⟩
        rw [hs0] at hx hg7 hg8 hnext TBI
        have HX := hid hx
        obtain ⟨sx, hsx⟩ : ∃ s, numB x = s := ⟨_, rfl⟩
        rw [hsx] at q1
        have HSX := hid hsx
        clear hx hx0 hsx hs0
        have d30 : decide ((i : Int) < (n : Int) + 1) = true := by have := IL.out; simp; omega
        rw [d30]
        clear d30
        go_loopw [10] (fun jj wq => ∃ j : Nat, jj = .int .i64 (j : Nat) ∧ i + j ≤ n + 1 ∧ Hid (NRow wq g7 (tIn os zs i j s0).1) ∧ Hid (NRow wq g8 (tIn os zs i j s0).2) ∧ Hid (Blk wq g1 (allB os n).toArray 4) ∧ Hid (Blk wq g2 (allB zs n).toArray 4) ∧ Hid (Below w.heap.size w wq)) (fun jj wq => n + 1 - (intOf jj).toNat)
        case atStart => exact ⟨0, rfl, by have := IL.out; omega, hg7, hg8, hg1, hg2, hB⟩
        case round =>
          clear hg7 hg8 hg1 hg2 hB
          obtain ⟨j, rfl, hj, hg7, hg8, hg1, hg2, hB⟩ := hrel
          have TBJ := hid (TB.inner (os := os) (zs := zs) h00.out TBI.out j hj)
          have k0 : wr.cell? ⟨g7, i, none⟩ = some (.string sx) := by
            refine (hg7.out.cell (by rw [TBJ.out.1.l1]; exact IL.out)).trans ?_
            rw [TBJ.out.2, HX.out, HSX.out]
          by_cases hlt : i + j ≤ n
          · have q2 : decide ((i : Int) + (j : Int) ≤ (n : Int)) = true := by simp; omega
            have f5 : (0 : Int) ≤ (j : Int) := by omega
            have f6 : (j : Int) < ((n + 1 : Nat) : Int) := by omega
            have f7 : (j : Int) ≤ 1000 := by have := HN.out; omega
            have f8 : (i : Int) + (j : Int) < ((n + 1 : Nat) : Int) := by omega
            have f9 : (i : Int) + (j : Int) < (n : Int) + 1 := by omega
            have f10 : (0 : Int) ≤ (i : Int) + (j : Int) := by omega
            have c1 : wr.cell? ⟨g1, j, none⟩ = some (.bool (os j)) := (hg1.out.cell j).trans (by rw [List.getElem?_toArray, allB_get (by omega)])
            have c2 : wr.cell? ⟨g2, j, none⟩ = some (.bool (zs j)) := (hg2.out.cell j).trans (by rw [List.getElem?_toArray, allB_get (by omega)])
            have HLT := hid hlt
            obtain ⟨zj, hzj⟩ : ∃ b, zs j = b := ⟨_, rfl⟩
            obtain ⟨oj, hoj⟩ : ∃ b, os j = b := ⟨_, rfl⟩
            rw [hoj] at c1
            rw [hzj] at c2
            have HZJ := hid hzj; have HOJ := hid hoj
            clear hlt hj hzj hoj
            obtain ⟨y1, hy1⟩ : ∃ y, (tIn os zs i j s0).2.getD (i + j) 0 = y := ⟨_, rfl⟩
            obtain ⟨y2, hy2⟩ : ∃ y, (tIn os zs i j s0).1.getD (i + j) 0 = y := ⟨_, rfl⟩
            have p2 : 2 ^ (i + 1) = 2 ^ i + 2 ^ i := by rw [Nat.pow_succ]; omega
            have hxb : x ≤ 2 ^ i := by rw [← HX.out]; exact TBI.out.src
            have hy1b : y1 ≤ 2 ^ i := hy1 ▸ TBJ.out.1.hi2 _ (Nat.le_refl _)
            have hy2b : y2 ≤ 2 ^ i := hy2 ▸ TBJ.out.1.hi1 _ (Nat.le_refl _)
            have i1000 : i ≤ 1000 := by have := IL.out; have := HN.out; omega
            have dx := two_pow_digits hxb (by omega)
            have P1 := fun V hV => hid (p_plus V y1 x (two_pow_digits hy1b (by omega)) dx (two_pow_digits (i := i + 1) (by omega) (by omega)) hV)
            have P2 := fun V hV => hid (p_plus V y2 x (two_pow_digits hy2b (by omega)) dx (two_pow_digits (i := i + 1) (by omega) (by omega)) hV)
            have t1 : wr.cell? ⟨g8, i + j, none⟩ = some (.string (numB y1)) := by rw [← hy1]; exact hg8.out.cell (by rw [TBJ.out.1.l2]; have := HLT.out; omega)
            have t2 : wr.cell? ⟨g7, i + j, none⟩ = some (.string (numB y2)) := by rw [← hy2]; exact hg7.out.cell (by rw [TBJ.out.1.l1]; have := HLT.out; omega)
            rw [HSX.out] at P1 P2
            obtain ⟨u1, hu1⟩ : ∃ s, numB y1 = s := ⟨_, rfl⟩
            obtain ⟨u2, hu2⟩ : ∃ s, numB y2 = s := ⟨_, rfl⟩
            rw [hu1] at P1 t1
            rw [hu2] at P2 t2
            have HY1 := hid hy1; have HY2 := hid hy2; have HU2 := hid hu2
            have hstep := hid (show tIn os zs i (j + 1) s0 = (addAt oj (i + j) x (tIn os zs i j s0).1, addAt zj (i + j) x (tIn os zs i j s0).2) from by rw [tIn, tStep, HOJ.out, HZJ.out, TBJ.out.2, HX.out])
            obtain ⟨m1, hm1⟩ : ∃ s, numB (y1 + x) = s := ⟨_, rfl⟩
            obtain ⟨m2, hm2⟩ : ∃ s, numB (y2 + x) = s := ⟨_, rfl⟩
            rw [hm1] at P1
            rw [hm2] at P2
            have HM1 := hid hm1; have HM2 := hid hm2
            clear hm1 hm2
            clear hy1 hy2 p2 hxb hy1b hy2b i1000 dx hu1 hu2
            cases zj
            · cases oj
              · go_wp2_with fail
                go_roundw
                case rel => exact ⟨j + 1, by go_num, by have := HLT.out; omega, by rw [hstep.out]; exact hg7, by rw [hstep.out]; exact hg8, hg1, hg2, hB⟩
                case measure => simp [intOf] <;> (have := HLT.out; omega)
              · go_wp2_with fail
                have ew : IntKind.i64.wrap ((i : Int) + (j : Int)) = (i : Int) + (j : Int) := by rw [IntWalk.i64_in _ ⟨by omega, by omega⟩]
                have et : ((i : Int) + (j : Int)).toNat = i + j := by omega
                refine held_lasts 15 2 [0, 1, 2, 3, 4, 5, 6, 7, 8, 9, 10, 11, 12, 13] 1 (fun W' => W'.cell? ⟨g7, i + j, none⟩ = some (.string u2) ∧ W'.cell? ⟨g7, i, none⟩ = some (.string sx)) (by kernel_rfl) rfl (by kernel_rfl) (by kernel_rfl) (by kernel_rfl) (by kernel_rfl) ⟨t2, k0⟩ ?_
                iterate 14
                  refine ⟨_, rfl, ?_⟩
                  apply Exists.intro
                  refine ⟨.inl ⟨by rfl, ?_⟩, ?_⟩
                  · (intro W' hW'; obtain ⟨r1, r2⟩ := hW'; go_simp; try (with_reducible rfl))
                  (dsimp only [Act.put]; try simp only [List.setIfInBounds_toArray, List.set_cons_zero, List.set_cons_succ])
                refine held_one (i := 14) (by kernel_rfl) (by rfl) (by rfl) ?_
                go_wp2_with fail
                refine (P2 _ (HL.out.below hB.out.drew HLL.out)).out.mono ?_; rintro e w5 ⟨rfl, hbc⟩
                have Ca := hid (show Below wr.heap.size wr w5 from (Below.refl _ _).drew.trans hbc)
                have E7a := hid (hg7.out.call Ca.out); have E8a := hid (hg8.out.call Ca.out); have E1a := hid (hg1.out.call Ca.out); have E2a := hid (hg2.out.call Ca.out); have EBa := hid (hB.out.trans (Ca.out.mono hB.out.size))
                have tca := (Ca.out.cell (cell_lt t2)).trans t2
                have kca := (Ca.out.cell (cell_lt k0)).trans k0
                clear hbc
                go_wp2_with fail
                refine ⟨⟨tca, kca⟩, ?_⟩
                refine wpAnyH_done (by kernel_rfl) ?_ _
                simp only [Only, ThenL, List.drop_succ_cons, List.drop_zero]
                have fza := E7a.out.free (i + j)
                clear kca
                go_wp2_with fail
                try simp only [Only]
                go_roundw
                case rel =>
                  refine ⟨j + 1, by go_num, by have := HLT.out; omega, ?_, ?_, E1a.out.other (fun e => M17.out e.symm) _, E2a.out.other (fun e => M27.out e.symm) _, EBa.out.setCell Q7.out _⟩
                  · show NRow _ _ _
                    rw [hstep.out, addAt_true, HY2.out, ← HM2.out]
                    exact E7a.out.set (i + j) (y2 + x)
                  · show NRow _ _ _
                    rw [hstep.out, addAt_false]
                    exact E8a.out.other (fun e => NE.out e) _
                case measure => simp [intOf] <;> (have := HLT.out; omega)
            · cases oj
              · go_wp2_with fail
                have ew : IntKind.i64.wrap ((i : Int) + (j : Int)) = (i : Int) + (j : Int) := by rw [IntWalk.i64_in _ ⟨by omega, by omega⟩]
                have et : ((i : Int) + (j : Int)).toNat = i + j := by omega
                refine held_lasts 15 2 [0, 1, 2, 3, 4, 5, 6, 7, 8, 9, 10, 11, 12, 13] 1 (fun W' => W'.cell? ⟨g8, i + j, none⟩ = some (.string u1) ∧ W'.cell? ⟨g7, i, none⟩ = some (.string sx)) (by kernel_rfl) rfl (by kernel_rfl) (by kernel_rfl) (by kernel_rfl) (by kernel_rfl) ⟨t1, k0⟩ ?_
                iterate 14
                  refine ⟨_, rfl, ?_⟩
                  apply Exists.intro
                  refine ⟨.inl ⟨by rfl, ?_⟩, ?_⟩
                  · (intro W' hW'; obtain ⟨r1, r2⟩ := hW'; go_simp; try (with_reducible rfl))
                  (dsimp only [Act.put]; try simp only [List.setIfInBounds_toArray, List.set_cons_zero, List.set_cons_succ])
                refine held_one (i := 14) (by kernel_rfl) (by rfl) (by rfl) ?_
                go_wp2_with fail
                refine (P1 _ (HL.out.below hB.out.drew HLL.out)).out.mono ?_; rintro e w5 ⟨rfl, hbc⟩
                have Ca := hid (show Below wr.heap.size wr w5 from (Below.refl _ _).drew.trans hbc)
                have E7a := hid (hg7.out.call Ca.out); have E8a := hid (hg8.out.call Ca.out); have E1a := hid (hg1.out.call Ca.out); have E2a := hid (hg2.out.call Ca.out); have EBa := hid (hB.out.trans (Ca.out.mono hB.out.size))
                have tca := (Ca.out.cell (cell_lt t1)).trans t1
                have kca := (Ca.out.cell (cell_lt k0)).trans k0
                clear hbc
                go_wp2_with fail
                refine ⟨⟨tca, kca⟩, ?_⟩
                refine wpAnyH_done (by kernel_rfl) ?_ _
                simp only [Only, ThenL, List.drop_succ_cons, List.drop_zero]
                have fza := E8a.out.free (i + j)
                have c1s : (w5.setCell ⟨g8, i + j, none⟩ (.string m1)).cell? ⟨g1, j, none⟩ = some (.bool false) := ((E1a.out.other (a := ⟨g8, i + j, none⟩) (fun e => M18.out e.symm) (.string m1)).cell j).trans (by rw [List.getElem?_toArray, allB_get (by have := HLT.out; omega), HOJ.out])
                clear kca
                go_wp2_with fail
                try simp only [Only]
                go_roundw
                case rel =>
                  refine ⟨j + 1, by go_num, by have := HLT.out; omega, ?_, ?_, E1a.out.other (fun e => M18.out e.symm) _, E2a.out.other (fun e => M28.out e.symm) _, EBa.out.setCell Q8.out _⟩
                  · show NRow _ _ _
                    rw [hstep.out, addAt_false]
                    exact E7a.out.other (fun e => NE.out e.symm) _
                  · show NRow _ _ _
                    rw [hstep.out, addAt_true, HY1.out, ← HM1.out]
                    exact E8a.out.set (i + j) (y1 + x)
                case measure => simp [intOf] <;> (have := HLT.out; omega)
              · go_wp2_with fail
                have ew : IntKind.i64.wrap ((i : Int) + (j : Int)) = (i : Int) + (j : Int) := by rw [IntWalk.i64_in _ ⟨by omega, by omega⟩]
                have et : ((i : Int) + (j : Int)).toNat = i + j := by omega
                refine held_lasts 15 2 [0, 1, 2, 3, 4, 5, 6, 7, 8, 9, 10, 11, 12, 13] 1 (fun W' => W'.cell? ⟨g8, i + j, none⟩ = some (.string u1) ∧ W'.cell? ⟨g7, i, none⟩ = some (.string sx)) (by kernel_rfl) rfl (by kernel_rfl) (by kernel_rfl) (by kernel_rfl) (by kernel_rfl) ⟨t1, k0⟩ ?_
                iterate 14
                  refine ⟨_, rfl, ?_⟩
                  apply Exists.intro
                  refine ⟨.inl ⟨by rfl, ?_⟩, ?_⟩
                  · (intro W' hW'; obtain ⟨r1, r2⟩ := hW'; go_simp; try (with_reducible rfl))
                  (dsimp only [Act.put]; try simp only [List.setIfInBounds_toArray, List.set_cons_zero, List.set_cons_succ])
                refine held_one (i := 14) (by kernel_rfl) (by rfl) (by rfl) ?_
                go_wp2_with fail
                refine (P1 _ (HL.out.below hB.out.drew HLL.out)).out.mono ?_; rintro e w5 ⟨rfl, hbc⟩
                have Ca := hid (show Below wr.heap.size wr w5 from (Below.refl _ _).drew.trans hbc)
                have E7a := hid (hg7.out.call Ca.out); have E8a := hid (hg8.out.call Ca.out); have E1a := hid (hg1.out.call Ca.out); have E2a := hid (hg2.out.call Ca.out); have EBa := hid (hB.out.trans (Ca.out.mono hB.out.size))
                have tca := (Ca.out.cell (cell_lt t1)).trans t1
                have kca := (Ca.out.cell (cell_lt k0)).trans k0
                clear hbc
                go_wp2_with fail
                refine ⟨⟨tca, kca⟩, ?_⟩
                refine wpAnyH_done (by kernel_rfl) ?_ _
                simp only [Only, ThenL, List.drop_succ_cons, List.drop_zero]
                have fza := E8a.out.free (i + j)
                have c1s : (w5.setCell ⟨g8, i + j, none⟩ (.string m1)).cell? ⟨g1, j, none⟩ = some (.bool true) := ((E1a.out.other (a := ⟨g8, i + j, none⟩) (fun e => M18.out e.symm) (.string m1)).cell j).trans (by rw [List.getElem?_toArray, allB_get (by have := HLT.out; omega), HOJ.out])
                clear kca
                go_wp2_with fail
                try simp only [Only]
                obtain ⟨w6, hw6⟩ : ∃ W, w5.setCell ⟨g8, i + j, none⟩ (.string m1) = W := ⟨_, rfl⟩
                have F7 : Hid (NRow w6 g7 (tIn os zs i j s0).1) := by rw [← hw6]; exact E7a.out.other (fun e => NE.out e.symm) _
                have F8 : Hid (NRow w6 g8 ((tIn os zs i j s0).2.set (i + j) (y1 + x))) := by rw [← hw6, ← HM1.out]; exact E8a.out.set (i + j) (y1 + x)
                have F1 : Hid (Blk w6 g1 (allB os n).toArray 4) := by rw [← hw6]; exact E1a.out.other (fun e => M18.out e.symm) _
                have F2 : Hid (Blk w6 g2 (allB zs n).toArray 4) := by rw [← hw6]; exact E2a.out.other (fun e => M28.out e.symm) _
                have FB : Hid (Below w.heap.size w w6) := by rw [← hw6]; exact EBa.out.setCell Q8.out _
                have k6 : w6.cell? ⟨g7, i, none⟩ = some (.string sx) := by
                  refine (F7.out.cell (by rw [TBJ.out.1.l1]; exact IL.out)).trans ?_
                  rw [TBJ.out.2, HX.out, HSX.out]
                have t6 : w6.cell? ⟨g7, i + j, none⟩ = some (.string u2) := by
                  refine (F7.out.cell (by rw [TBJ.out.1.l1]; have := HLT.out; omega)).trans ?_
                  rw [HY2.out, HU2.out]
                rw [hw6]
                clear hw6 c1s fza tca ew t1 t2 k0
                have ew : IntKind.i64.wrap ((i : Int) + (j : Int)) = (i : Int) + (j : Int) := by rw [IntWalk.i64_in _ ⟨by omega, by omega⟩]
                have et : ((i : Int) + (j : Int)).toNat = i + j := by omega
                refine held_lasts 15 2 [0, 1, 2, 3, 4, 5, 6, 7, 8, 9, 10, 11, 12, 13] 1 (fun W' => W'.cell? ⟨g7, i + j, none⟩ = some (.string u2) ∧ W'.cell? ⟨g7, i, none⟩ = some (.string sx)) (by kernel_rfl) rfl (by kernel_rfl) (by kernel_rfl) (by kernel_rfl) (by kernel_rfl) ⟨t6, k6⟩ ?_
                iterate 14
                  refine ⟨_, rfl, ?_⟩
                  apply Exists.intro
                  refine ⟨.inl ⟨by rfl, ?_⟩, ?_⟩
                  · (intro W' hW'; obtain ⟨r1, r2⟩ := hW'; go_simp; try (with_reducible rfl))
                  (dsimp only [Act.put]; try simp only [List.setIfInBounds_toArray, List.set_cons_zero, List.set_cons_succ])
                refine held_one (i := 14) (by kernel_rfl) (by rfl) (by rfl) ?_
                go_wp2_with fail
                refine (P2 _ (HL.out.below FB.out.drew HLL.out)).out.mono ?_; rintro e w7 ⟨rfl, hbc⟩
                have Cb := hid (show Below w6.heap.size w6 w7 from (Below.refl _ _).drew.trans hbc)
                have E7b := hid (F7.out.call Cb.out); have E8b := hid (F8.out.call Cb.out); have E1b := hid (F1.out.call Cb.out); have E2b := hid (F2.out.call Cb.out); have EBb := hid (FB.out.trans (Cb.out.mono FB.out.size))
                have tcb := (Cb.out.cell (cell_lt t6)).trans t6
                have kcb := (Cb.out.cell (cell_lt k6)).trans k6
                clear hbc
                go_wp2_with fail
                refine ⟨⟨tcb, kcb⟩, ?_⟩
                refine wpAnyH_done (by kernel_rfl) ?_ _
                simp only [Only, ThenL, List.drop_succ_cons, List.drop_zero]
                have fzb := E7b.out.free (i + j)
                clear kcb
                go_wp2_with fail
                try simp only [Only]
                go_roundw
                case rel =>
                  refine ⟨j + 1, by go_num, by have := HLT.out; omega, ?_, ?_, E1b.out.other (fun e => M17.out e.symm) _, E2b.out.other (fun e => M27.out e.symm) _, EBb.out.setCell Q7.out _⟩
                  · show NRow _ _ _
                    rw [hstep.out, addAt_true, HY2.out, ← HM2.out]
                    exact E7b.out.set (i + j) (y2 + x)
                  · show NRow _ _ _
                    rw [hstep.out, addAt_true, addAt_true, HY1.out]
                    exact E8b.out.other (fun e => NE.out e) _
                case measure => simp [intOf] <;> (have := HLT.out; omega)
          · have q2 : decide ((i : Int) + (j : Int) ≤ (n : Int)) = false := by simp; omega
            have e1 : j = n + 1 - i := by omega
            have f7 : (j : Int) ≤ 1001 := by have := HN.out; omega
            have f5 : (0 : Int) ≤ (j : Int) := by omega
            subst e1
            clear hj hlt
            go_wp2_with fail
            go_roundw
            case rel => exact ⟨i + 1, by go_num, by have := IL.out; omega, by rw [hnext.out]; exact hg7, by rw [hnext.out]; exact hg8, hg1, hg2, hB⟩
            case measure => simp [intOf] <;> (have := IL.out; omega)
    · have q0 : decide ((i : Int) < ((n + 1 : Nat) : Int)) = false := by simp; omega
      have e1 : i = n + 1 := by omega
      subst e1
      go_wp2_with fail
      go_ret
      exact ⟨⟨g8, rfl, Q8.out, by rw [HOS.out, HZS.out]; exact hg8.out⟩, hB.out⟩
end Go.Proofs.YtikfgddgfddbaaaGreatDoor

/- Plain words: two series, and what is left. No program in sight. -/
namespace Go.Proofs.YtikfgddgfddbaaaGreatDoor
open Go.RowKit
open Go.Lib (decDigits nDigits)

def cStep (L : List Nat) (i k : Nat) (m : List Nat) : List Nat := m.set (i + k) (m.getD (i + k) 0 + L.getD i 0 * L.getD k 0)
def cIn (L : List Nat) (i : Nat) : Nat → List Nat → List Nat
  | 0, m => m
  | k + 1, m => cStep L i k (cIn L i k m)
/-- The two-fold table. -/
def cOut (L : List Nat) (n : Nat) : Nat → List Nat
  | 0 => List.replicate (n + 1) 0
  | i + 1 => cIn L i (n + 1 - i) (cOut L n i)

/-- The bound behind t steps. -/
structure CB (n B t : Nat) (m : List Nat) : Prop where
  len : m.length = n + 1
  up : ∀ k, m.getD k 0 ≤ t * B

theorem getD_set (l : List Nat) {i : Nat} (hi : i < l.length) (x k : Nat) : (l.set i x).getD k 0 = if i = k then x else l.getD k 0 := by
  rw [List.getD_eq_getElem?_getD, List.getD_eq_getElem?_getD, List.getElem?_set]
  by_cases h : i = k
  · subst h; simp [hi]
  · simp [h]

theorem CB.step {L m : List Nat} {n B t i k : Nat} (h : CB n (B * B) t m) (hL : ∀ k, L.getD k 0 ≤ B) (hik : i + k ≤ n) : CB n (B * B) (t + 1) (cStep L i k m) := by
  refine ⟨by simp [cStep, h.len], fun j => ?_⟩
  have h1 := h.up j
  have h2 := h.up (i + k)
  have h3 := Nat.mul_le_mul (hL i) (hL k)
  unfold cStep
  rw [getD_set _ (by rw [h.len]; omega), Nat.succ_mul]
  split <;> omega

theorem CB.inner {L m : List Nat} {n B t i : Nat} (h : CB n (B * B) t m) (hL : ∀ k, L.getD k 0 ≤ B) : ∀ k, i + k ≤ n + 1 → CB n (B * B) (t + k) (cIn L i k m)
  | 0, _ => h
  | k + 1, hk => CB.step (CB.inner h hL k (by omega)) hL (by omega)

theorem CB.outer {L : List Nat} {n B : Nat} (hL : ∀ k, L.getD k 0 ≤ B) : ∀ i, i ≤ n + 1 → CB n (B * B) (i * (n + 1)) (cOut L n i)
  | 0, _ => ⟨by simp [cOut], fun k => by
      rw [cOut, List.getD_eq_getElem?_getD, List.getElem?_replicate]
      split <;> simp⟩
  | i + 1, hi => by
    have h0 := CB.outer (n := n) hL i (by omega)
    have h := CB.inner (i := i) h0 hL (n + 1 - i) (by omega)
    refine ⟨h.len, fun k => Nat.le_trans (h.up k) (Nat.mul_le_mul_right _ ?_)⟩
    rw [Nat.succ_mul]
    omega

theorem CB.mono {n B t t' : Nat} {m : List Nat} (h : CB n B t m) (ht : t ≤ t') : CB n B t' m := ⟨h.len, fun k => Nat.le_trans (h.up k) (Nat.mul_le_mul_right _ ht)⟩

/-- What is left behind i entries. -/
def rIn (L : List Nat) (n : Nat) : Nat → Nat
  | 0 => 2 ^ n
  | i + 1 => rIn L n i - L.getD i 0 * 2 ^ (n - i)
theorem rIn_le (L : List Nat) (n : Nat) : ∀ i, rIn L n i ≤ 2 ^ n
  | 0 => Nat.le_refl _
  | i + 1 => by have := rIn_le L n i; rw [rIn]; omega

def e3 : Nat := 300
def e7 : Nat := 700

theorem tab_bound {os zs : Nat → Bool} (h0 : os 0 = false) {n : Nat} (hn : n ≤ 256) : (tOut os zs n (n + 1)).2.length = n + 1 ∧ ∀ k, (tOut os zs n (n + 1)).2.getD k 0 ≤ 2 ^ e3 := by
  have h := TB.outer (zs := zs) h0 n (n + 1) (Nat.le_refl _)
  exact ⟨h.l2, fun k => Nat.le_trans (h.up2 k) (Nat.pow_le_pow_right (by omega) (by unfold e3; omega))⟩

theorem conv_bound {n t : Nat} (hn : n ≤ 256) (ht : t ≤ (n + 1) * (n + 1)) {x : Nat} (h : x ≤ t * (2 ^ e3 * 2 ^ e3)) : x ≤ 2 ^ e7 := by
  refine Nat.le_trans h ?_
  have h1 : t ≤ 2 ^ 20 := by
    refine Nat.le_trans ht ?_
    have : (n + 1) * (n + 1) ≤ 257 * 257 := Nat.mul_le_mul (by omega) (by omega)
    omega
  have h2 := Nat.mul_le_mul_right (2 ^ e3 * 2 ^ e3) h1
  rw [← Nat.pow_add, ← Nat.pow_add] at h2
  rw [← Nat.pow_add]
  exact Nat.le_trans h2 (Nat.pow_le_pow_right (by omega) (by unfold e3 e7; omega))
end Go.Proofs.YtikfgddgfddbaaaGreatDoor

/- Walks: the program's limbs: Pow's closure. -/
namespace Go.Proofs.YtikfgddgfddbaaaGreatDoor
open Go.RowKit
open Go.Lib (decDigits nDigits)
set_option linter.unusedVariables false
set_option linter.unusedSimpArgs false

theorem NoInt.slice (a : Option Addr) (n c : Nat) : NoInt #[.slice a n c] := by
  intro i k x h
  rcases i with _ | i <;> simp at h
theorem NoInt.bool (m : Bool) : NoInt #[.bool m] := by
  intro i k x h
  rcases i with _ | i <;> simp at h

/-- What Pow's variables hold: the square sq, whether it fits, the limit. -/
structure PowS (w : World) (bs bf bl : Nat) (sq : Nat) (fits : Bool) : Prop where
  sq : ∃ a n c, Blk w bs #[.slice a n c] 100 ∧ IsN .u64 w (.slice a n c) sq
  fits : Blk w bf #[.bool fits] 4
  lim : Blk w bl #[.int .i64 4000] 3
  n1 : bs ≠ bf
  n2 : bs ≠ bl
  n3 : bf ≠ bl

set_option maxRecDepth 100000 in
set_option maxHeartbeats 1000000 in
theorem l_Pow1 (w : World) (bs bf bl sq B : Nat) (f : Bool) (h : PowS w bs bf bl sq f) (hs : B ≤ bs) (hf : B ≤ bf) (hB : B ≤ w.heap.size) (hlen : (limbs sq).length ≤ 100000) (hL : Lay w) (hLB : LayLt B) :
    Calls Tryz.prog 159 #[.pointer (some ⟨bs, 0, none⟩), .pointer (some ⟨bl, 0, none⟩), .pointer (some ⟨bf, 0, none⟩)] w fun e w' =>
      (∃ v, e = .returned v) ∧ PowS w' bs bf bl (sq * sq) (decide (nDigits (sq * sq) ≤ 4000)) ∧ (∀ k v x, IsN k w v x → IsN k w' v x) ∧ Below B w w' := by
  obtain ⟨⟨a, n, c, hbs, hv⟩, hbf, hbl, n1, n2, n3⟩ := h
  have c0 : w.cell? ⟨bs, 0, none⟩ = some (.slice a n c) := hbs.cell 0
  have c1 := hbs.free 0
  have c2 : w.cell? ⟨bl, 0, none⟩ = some (.int .i64 4000) := hbl.cell 0
  have HBS := hid hbs; have HBF := hid hbf; have HBL := hid hbl; have HV := hid hv; have N1 := hid n1; have N2 := hid n2; have N3 := hid n3
  have HS := hid hs; have HF := hid hf; have HB := hid hB; have HLEN := hid hlen; have HL := hid hL; have HLB := hid hLB
  have l2 := len_mul hlen hlen
  have HLM := hid (show (limbs (sq * sq)).length ≤ 1000000 by omega)
  obtain ⟨S, hS⟩ : ∃ S, sq * sq = S := ⟨_, rfl⟩
  have HM := fun V h => hid (l_Mul V (.slice a n c) (.slice a n c) sq sq h h (by omega) (by omega))
  rw [hS] at HM HLM ⊢
  clear hbs hv hbf hbl n1 n2 n3 hs hf hB hlen hL l2 hS hLB
  go_enter Tryz.func159, Tryz.ntmps159
  go_wp2_with fail
  refine (HM _ HV.out).out.mono ?_; rintro e w1 ⟨⟨v1, rfl, hv1⟩, hb1⟩
  obtain ⟨a1, k1, d1, rfl⟩ : ∃ a k d, v1 = .slice a k d := by
    obtain ⟨a, c, e, _⟩ := hv1.openI
    exact ⟨_, _, _, e⟩
  have S1 := hid (HBS.out.call hb1); have F1 := hid (HBF.out.call hb1); have T1 := hid (HBL.out.call hb1); have B1 := hid hb1; have V1 := hid hv1
  have e0 := S1.out.free 0
  have e1 := S1.out.cell 0
  simp at e1
  clear hb1 hv1 HM c0 c1 c2
  go_wp2_with fail
  obtain ⟨w2, hw2⟩ : ∃ w2, w1.setCell ⟨bs, 0, none⟩ (.slice a1 k1 d1) = w2 := ⟨_, rfl⟩
  have s2 : Blk w2 bs #[.slice a1 k1 d1] 100 := by rw [← hw2]; exact S1.out.set 0 _
  have f2 : Blk w2 bf #[.bool f] 4 := by rw [← hw2]; exact F1.out.other (fun e => N1.out e) _
  have t2 : Blk w2 bl #[.int .i64 4000] 3 := by rw [← hw2]; exact T1.out.other (fun e => N2.out e) _
  have v2 : IsN .u64 w2 (.slice a1 k1 d1) S := by rw [← hw2]; exact V1.out.setQ S1.out (NoInt.slice _ _ _) 0 _
  have k2 : ∀ k v x, IsN k w v x → IsN k w2 v x := fun k v x h => by rw [← hw2]; exact (h.call B1.out).setQ S1.out (NoInt.slice _ _ _) 0 _
  have b2 : Below B w w2 := by rw [← hw2]; exact (B1.out.mono HB.out).setCell HS.out _
  have hsz : w.heap.size ≤ w2.heap.size := by rw [← hw2]; simpa [World.setCell] using B1.out.size
  rw [hw2]
  have S2 := hid s2; have F2 := hid f2; have T2 := hid t2; have V2 := hid v2; have K2 := hid k2; have B2 := hid b2; have SZ := hid hsz
  have L2 : Hid (Lay w2) := HL.out.below b2 HLB.out
  clear s2 f2 t2 v2 k2 b2 hw2 e0 e1 hsz
  have hS : w2.drew.cell? ⟨bs, 0, none⟩ = some (.slice a1 k1 d1) ∧ w2.drew.cell? ⟨bl, 0, none⟩ = some (.int .i64 4000) := ⟨S2.out.cell 0, T2.out.cell 0⟩
  refine held_plain [0, 2] 3 (fun W' => W'.cell? ⟨bs, 0, none⟩ = some (.slice a1 k1 d1) ∧ W'.cell? ⟨bl, 0, none⟩ = some (.int .i64 4000)) (by kernel_rfl) (by kernel_rfl) (by kernel_rfl) (by kernel_rfl) hS ?_
  iterate 2
    refine ⟨_, rfl, ?_⟩
    apply Exists.intro
    refine ⟨.inl ⟨by rfl, ?_⟩, ?_⟩
    · (intro W' hW'; obtain ⟨q1, q2⟩ := hW'; go_simp; try (with_reducible rfl))
    (dsimp only [Act.put]; try simp only [List.setIfInBounds_toArray, List.set_cons_zero, List.set_cons_succ])
  clear hS
  refine held_one (i := 1) (by kernel_rfl) (by rfl) (by rfl) ?_
  go_wp2_with fail
  refine (l_Digits _ _ S (V2.out.call (Below.refl _ _).drew) (L2.out.call (Below.refl _ _).drew) HLM.out).mono ?_; rintro e w3 ⟨rfl, hb3⟩
  have B3 := hid (show Below w2.heap.size w2 w3 from (Below.refl _ _).drew.trans hb3)
  have S3 := hid (S2.out.call B3.out); have F3 := hid (F2.out.call B3.out); have T3 := hid (T2.out.call B3.out); have V3 := hid (V2.out.call B3.out)
  have hS : w3.cell? ⟨bs, 0, none⟩ = some (.slice a1 k1 d1) ∧ w3.cell? ⟨bl, 0, none⟩ = some (.int .i64 4000) := ⟨S3.out.cell 0, T3.out.cell 0⟩
  clear hb3
  go_wp2_with fail
  refine ⟨hS, ?_⟩
  refine held_more (is := [3]) (g := 1) (by kernel_rfl) rfl hS (by kernel_rfl) ?_
  iterate 1
    refine ⟨_, rfl, ?_⟩
    apply Exists.intro
    refine ⟨.inl ⟨by rfl, ?_⟩, ?_⟩
    · (intro W' hW'; clear hW'; go_simp; try (with_reducible rfl))
    (dsimp only [Act.put]; try simp only [List.setIfInBounds_toArray, List.set_cons_zero, List.set_cons_succ])
  refine held_one (i := 4) (by kernel_rfl) (by rfl) (by rfl) ?_
  have g0 := F3.out.free 0
  have g1 := F3.out.cell 0
  simp at g1
  clear hS
  go_wp2_with fail
  have s4 := S3.out.other (a := ⟨bf, 0, none⟩) (fun e => N1.out e.symm) (.bool (decide ((nDigits S : Int) ≤ 4000)))
  have f4 := F3.out.set 0 (.bool (decide ((nDigits S : Int) ≤ 4000)))
  have t4 := T3.out.other (a := ⟨bf, 0, none⟩) (fun e => N3.out e) (.bool (decide ((nDigits S : Int) ≤ 4000)))
  refine ⟨⟨s4.cell 0, t4.cell 0⟩, ?_⟩
  refine wpAnyH_done (by kernel_rfl) ?_ _
  simp only [Only]
  go_wp2_with fail
  go_end0
  refine ⟨⟨_, rfl⟩, ⟨⟨a1, k1, d1, s4, V3.out.setQ F3.out (NoInt.bool _) 0 _⟩, ?_, t4, N1.out, N2.out, N3.out⟩, ?_, ?_⟩
  · have e : decide ((nDigits S : Int) ≤ 4000) = decide (nDigits S ≤ 4000) := decide_eq_decide.2 (by omega)
    rw [← e]
    exact f4
  · intro k v x h
    exact ((K2.out k v x h).call B3.out).setQ F3.out (NoInt.bool _) 0 _
  · exact (B2.out.trans (B3.out.mono (Nat.le_trans HB.out SZ.out))).setCell HF.out _
end Go.Proofs.YtikfgddgfddbaaaGreatDoor

/- Plain words: digits and limbs. -/
namespace Go.Proofs.YtikfgddgfddbaaaGreatDoor
open Go.RowKit
open Go.Lib (decDigits nDigits)

theorem limbs_digits {n K : Nat} (h : nDigits n ≤ 9 * K) : (limbs n).length ≤ K := by
  refine limbs_length_le.2 ?_
  have h1 := Go.Lib.lt_pow_nDigits n
  have h2 : 10 ^ nDigits n ≤ 10 ^ (9 * K) := Nat.pow_le_pow_right (by omega) h
  rw [Nat.pow_mul] at h2
  exact Nat.lt_of_lt_of_le h1 h2

theorem limbs_of_digits {n : Nat} (h : nDigits n ≤ 4000) : (limbs n).length ≤ 445 := limbs_digits (by omega)

theorem limbs_mul {a b p q : Nat} (ha : (limbs a).length ≤ p) (hb : (limbs b).length ≤ q) : (limbs (a * b)).length ≤ p + q := by
  refine limbs_length_le.2 ?_
  have h1 := limbs_length_le.1 ha
  have h2 := limbs_length_le.1 hb
  rw [Nat.pow_add]
  exact Nat.mul_lt_mul'' h1 h2

theorem IsN.cast {k : IntKind} {w : World} {v : Value} {m n : Nat} (h : IsN k w v m) (e : m = n) : IsN k w v n := e ▸ h

theorem nDigits_one : nDigits 1 = 1 := Go.Lib.nDigits_small (by omega)
theorem nDigits_zero : nDigits 0 = 1 := Go.Lib.nDigits_small (by omega)
end Go.Proofs.YtikfgddgfddbaaaGreatDoor

/- Walks: the program's limbs: Pow. -/
namespace Go.Proofs.YtikfgddgfddbaaaGreatDoor
open Go.RowKit
open Go.Lib (decDigits nDigits)
set_option linter.unusedVariables false
set_option linter.unusedSimpArgs false

/-- The state of Pow's loop. -/
structure PowI (A sq out n : Nat) (fits : Bool) : Prop where
  eq : out * sq ^ n = A
  two : 2 ≤ sq
  n1 : 1 ≤ n
  small : nDigits out ≤ 4000
  fit : fits = false → 4000 < nDigits sq
  len : fits = true → (limbs sq).length ≤ 100000
  lim : (limbs sq).length ≤ 200000
  pos : 1 ≤ out

theorem PowI.start {a n : Nat} (ha : 2 ≤ a) (hn : 1 ≤ n) (hl : (limbs a).length ≤ 100000) : PowI (a ^ n) a 1 n true :=
  ⟨Nat.one_mul _, ha, hn, by rw [nDigits_one]; omega, fun h => by (cases h), fun _ => hl, by omega, Nat.le_refl _⟩
theorem PowI.sq_le {A sq out n : Nat} {fits : Bool} (h : PowI A sq out n fits) : out * sq ≤ A := by
  rw [← h.eq]
  refine Nat.mul_le_mul_left _ ?_
  have := Nat.pow_le_pow_right (n := sq) (by have := h.two; omega) h.n1
  rwa [Nat.pow_one] at this
theorem PowI.big {A sq out n : Nat} {fits : Bool} (h : PowI A sq out n fits) (hf : fits = false) : 4000 < nDigits A := by
  refine Nat.lt_of_lt_of_le (h.fit hf) (nDigits_mono ?_)
  exact Nat.le_trans (Nat.le_mul_of_pos_left _ h.pos) h.sq_le
theorem PowI.bigO {A sq out n : Nat} {fits : Bool} (h : PowI A sq out n fits) (hb : 4000 < nDigits (out * sq)) : 4000 < nDigits A :=
  Nat.lt_of_lt_of_le hb (nDigits_mono h.sq_le)
theorem PowI.done {A sq out n : Nat} {fits : Bool} (h : PowI A sq out n fits) (hn : n = 1) : out * sq = A := by
  rw [← h.eq, hn, Nat.pow_one]
theorem sq_len {sq : Nat} (h : (limbs sq).length ≤ 100000) : (limbs (sq * sq)).length ≤ 200000 := by
  have := limbs_mul h h
  omega
theorem PowI.odd {A sq out n : Nat} {fits : Bool} (h : PowI A sq out n fits) (hf : fits = true) (ho : n % 2 = 1) (hs : nDigits (out * sq) ≤ 4000) (h2 : 1 ≤ n / 2) : PowI A (sq * sq) (out * sq) (n / 2) (decide (nDigits (sq * sq) ≤ 4000)) := by
  have h4 := Nat.mul_le_mul h.two h.two
  refine ⟨?_, by omega, h2, hs, fun e => ?_, fun e => ?_, sq_len (h.len hf), Nat.mul_pos h.pos (by have := h.two; omega)⟩
  · rw [← h.eq, Nat.mul_assoc, ← Nat.pow_two, ← Nat.pow_mul]
    have : sq * sq ^ (2 * (n / 2)) = sq ^ n := by
      rw [← Nat.pow_succ']
      congr 1
      omega
    rw [this]
  · have := of_decide_eq_false e; omega
  · have := limbs_of_digits (of_decide_eq_true e); omega
theorem PowI.even {A sq out n : Nat} {fits : Bool} (h : PowI A sq out n fits) (hf : fits = true) (ho : n % 2 = 0) : PowI A (sq * sq) out (n / 2) (decide (nDigits (sq * sq) ≤ 4000)) := by
  have h4 := Nat.mul_le_mul h.two h.two
  have h1 := h.n1
  refine ⟨?_, by omega, by omega, h.small, fun e => ?_, fun e => ?_, sq_len (h.len hf), h.pos⟩
  · rw [← h.eq, ← Nat.pow_two, ← Nat.pow_mul]
    congr 2
    omega
  · have := of_decide_eq_false e; omega
  · have := limbs_of_digits (of_decide_eq_true e); omega

/-- What Pow returns. -/
def RetPowU (n : Nat) (e : Ending) (w' : World) : Prop :=
  (nDigits n ≤ 4000 ∧ ∃ v, e = .returned (.tuple #[v, .bool true]) ∧ IsN .u64 w' v n) ∨ (4000 < nDigits n ∧ e = .returned (.tuple #[.slice none 0 0, .bool false]))

theorem isN_oneU (w : World) : IsN .u64 (w.alloc (.cells #[.int .u64 1] 112)) (.slice (some ⟨w.heap.size, 0, none⟩) 1 1) 1 := by
  unfold IsN
  rw [limbs_one]
  exact Row.of_blk (b := w.heap.size) (n := 1) (c := 1) (cs := #[.int .u64 1]) (Blk.new w _ _) rfl (by unfold maxLen; omega) (fun i x hx => by simpa [ints] using hx) (Nat.le_refl _) (by unfold maxLen; omega)

theorem odd_test {n : Nat} (h : n < 18446744073709551616) : (bits BinOp.and IntKind.u64 (n : Int) 1 == 1) = decide (n % 2 = 1) := by
  rw [and_one_u64 _ (by omega) (by omega), Bool.eq_iff_iff, beq_iff_eq, decide_eq_true_eq]
  omega

set_option maxRecDepth 100000 in
set_option maxHeartbeats 1000000 in
theorem l_Pow_zero (w : World) (v : Value) (a : Nat) (ha : IsN .u64 w v a) : Calls Tryz.prog 111 #[v, .int .u64 0, .int .i64 4000] w fun e w' => RetPowU (a ^ 0) e w' ∧ Below w.heap.size w w' := by
  have H1 := hid (isN_oneU (w.alloc (.cells #[.int .i64 4000] 3)))
  go_enter Tryz.func111, Tryz.ntmps111
  go_wp2_with fail
  go_ret2
  refine ⟨.inl ⟨by rw [Nat.pow_zero, nDigits_one]; omega, _, rfl, by rw [Nat.pow_zero]; simpa using H1.out⟩, ((Below.refl _ _).alloc (Nat.le_refl _) _).alloc (by simp) _⟩

set_option maxRecDepth 100000 in
set_option maxHeartbeats 1000000 in
theorem l_Pow_small (w : World) (v : Value) (a n : Nat) (ha : IsN .u64 w v a) (hs : a ≤ 1) (hn : 0 < n) (hn2 : n < 18446744073709551616) : Calls Tryz.prog 111 #[v, .int .u64 n, .int .i64 4000] w fun e w' => RetPowU (a ^ n) e w' ∧ Below w.heap.size w w' := by
  have hpow := hid (show a ^ n = a ∧ nDigits a ≤ 4000 from by
    rcases (show a = 0 ∨ a = 1 by omega) with rfl | rfl
    · exact ⟨Nat.zero_pow hn, by rw [nDigits_zero]; omega⟩
    · exact ⟨Nat.one_pow _, by rw [nDigits_one]; omega⟩)
  have b0 := hid ((Below.refl w.heap.size w).alloc (Nat.le_refl _) (.cells #[.int .i64 4000] 3))
  have A0 := hid (ha.call b0.out)
  have q0 : ((n : Int) == 0) = false := by rw [beq_eq_false_iff_ne]; omega
  obtain ⟨k1, d1, rfl, _⟩ := ha.openI
  obtain ⟨len, hlen⟩ : ∃ k, (limbs a).length = k := ⟨_, rfl⟩
  rw [hlen] at A0 ⊢
  clear ha hlen
  rcases (show a = 0 ∨ a = 1 by omega) with rfl | rfl
  · have hz : isZ 0 = true := rfl
    clear hs hn hn2
    go_enter Tryz.func111, Tryz.ntmps111
    go_wp2_with fail
    refine (l_Zero _ _ _ A0.out).mono ?_; rintro e w1 ⟨rfl, rfl⟩
    rw [hz]
    go_wp2_with fail
    go_ret2
    exact ⟨.inl ⟨by rw [hpow.out.1]; exact hpow.out.2, _, rfl, by rw [hpow.out.1]; exact A0.out⟩, b0.out⟩
  · have hz : isZ 1 = false := rfl
    have ho : isO 1 = true := rfl
    clear hs hn hn2
    go_enter Tryz.func111, Tryz.ntmps111
    go_wp2_with fail
    refine (l_Zero _ _ _ A0.out).mono ?_; rintro e w1 ⟨rfl, rfl⟩
    rw [hz]
    go_wp2_with fail
    refine (l_One _ _ _ A0.out).mono ?_; rintro e w1 ⟨rfl, rfl⟩
    rw [ho]
    go_wp2_with fail
    go_ret2
    exact ⟨.inl ⟨by rw [hpow.out.1]; exact hpow.out.2, _, rfl, by rw [hpow.out.1]; exact A0.out⟩, b0.out⟩

set_option maxRecDepth 100000 in
set_option maxHeartbeats 4000000 in
theorem l_Pow_big (w : World) (v : Value) (a N : Nat) (ha : IsN .u64 w v a) (hs : 2 ≤ a) (hl : (limbs a).length ≤ 100000) (hn : 0 < N) (hn2 : N < 18446744073709551616) (hL : Lay w) : Calls Tryz.prog 111 #[v, .int .u64 N, .int .i64 4000] w fun e w' => RetPowU (a ^ N) e w' ∧ Below w.heap.size w w' := by
  have b0 := hid ((Below.refl w.heap.size w).alloc (Nat.le_refl _) (.cells #[.int .i64 4000] 3))
  have A0 := hid (ha.call b0.out); have HA := hid ha
  have q0 : ((N : Int) == 0) = false := by rw [beq_eq_false_iff_ne]; omega
  obtain ⟨k1, d1, rfl, _⟩ := ha.openI
  obtain ⟨len, hlen⟩ : ∃ k, (limbs a).length = k := ⟨_, rfl⟩
  have PI := hid (PowI.start (n := N) hs hn hl)
  rw [hlen] at A0 HA ⊢
  have hz : isZ a = false := decide_eq_false (by omega)
  have ho : isO a = false := decide_eq_false (by omega)
  have HN2 := hid hn2; have HL := hid hL; have HLL := hid hL.lt
  obtain ⟨R, hR⟩ : ∃ R, a ^ N = R := ⟨_, rfl⟩
  rw [hR] at PI ⊢
  clear ha hlen hs hl hn hn2 hL hR
  go_enter Tryz.func111, Tryz.ntmps111
  go_wp2_with fail
  refine (l_Zero _ _ _ A0.out).mono ?_; rintro e w1 ⟨rfl, rfl⟩
  rw [hz]
  clear hz
  go_wp2_with fail
  refine (l_One _ _ _ A0.out).mono ?_; rintro e w1 ⟨rfl, rfl⟩
  rw [ho]
  clear ho
  go_wp2_with fail
  obtain ⟨W0, hW0⟩ : ∃ W0, ((((w.alloc (.cells #[.int .i64 4000] 3)).alloc (.cells #[.int .u64 1] 112)).alloc (.cells #[.slice k1 len d1] 100)).alloc (.cells #[.bool true] 4)) = W0 := ⟨_, rfl⟩
  have b4 : Below w.heap.size w W0 := by rw [← hW0]; exact ((((Below.refl _ _).alloc (Nat.le_refl _) _).alloc (by simp) _).alloc (by simp <;> omega) _).alloc (by simp <;> omega) _
  have x0 : Blk W0 w.heap.size #[.int .i64 4000] 3 := by rw [← hW0]; exact (((Blk.new w _ _).alloc _).alloc _).alloc _
  have x1 : Blk W0 (w.heap.size + 1) #[.int .u64 1] 112 := by rw [← hW0]; exact ((Blk.made _ _ _ (by simp)).alloc _).alloc _
  have x2 : Blk W0 (w.heap.size + 1 + 1) #[.slice k1 len d1] 100 := by rw [← hW0]; exact (Blk.made _ _ _ (by simp)).alloc _
  have x3 : Blk W0 (w.heap.size + 1 + 1 + 1) #[.bool true] 4 := by rw [← hW0]; exact Blk.made _ _ _ (by simp)
  have o0 : IsN .u64 W0 (.slice (some ⟨w.heap.size + 1, 0, none⟩) 1 1) 1 := by
    unfold IsN
    rw [limbs_one]
    exact Row.of_blk (n := 1) (c := 1) x1 rfl (by unfold maxLen; omega) (fun i x hx => by simpa [ints] using hx) (Nat.le_refl _) (by unfold maxLen; omega)
  have P0 : PowS W0 (w.heap.size + 1 + 1) (w.heap.size + 1 + 1 + 1) w.heap.size a true := ⟨⟨_, _, _, x2, HA.out.call b4⟩, x3, x0, by omega, by omega, by omega⟩
  rw [hW0]
  have OO := hid o0; have PP := hid P0; have BB := hid b4
  obtain ⟨bs, hbs⟩ : ∃ b, w.heap.size + 1 + 1 = b := ⟨_, rfl⟩
  rw [hbs] at PP ⊢
  obtain ⟨bf, hbf⟩ : ∃ b, bs + 1 = b := ⟨_, rfl⟩
  rw [hbf] at PP ⊢
  have HBS := hid (show w.heap.size ≤ bs by omega); have HBF := hid (show w.heap.size ≤ bf by omega)
  have e159 : ∀ args w, (callFunc 159 args).run Tryz.prog w = .ok (.enter 159 args) w := enters_of Tryz.func159 (by kernel_rfl) rfl
  clear b4 x0 x1 x2 x3 o0 P0 hW0 hbs hbf A0 b0 q0
  go_loopw [1, 8] (fun nn oo wr => ∃ (n out sq : Nat) (fits : Bool) (a1 : Option Addr) (l1 c1 : Nat), nn = .int .u64 (n : Nat) ∧ oo = .slice a1 l1 c1 ∧ Hid (PowI R sq out n fits) ∧ Hid (IsN .u64 wr (.slice a1 l1 c1) out) ∧ Hid (PowS wr bs bf w.heap.size sq fits) ∧ Hid (Below w.heap.size w wr) ∧ n < 18446744073709551616) (fun nn oo wr => (intOf nn).toNat)
  case atStart => exact ⟨N, 1, a, true, _, _, _, rfl, rfl, PI.out, OO.out, PP.out, BB.out, HN2.out⟩
  case round =>
    obtain ⟨n, out, sq, fits, a1, l1, c1, rfl, rfl, hI, hO, hS, hB, hn⟩ := hrel
    obtain ⟨a2, l2, c2, h1, h2⟩ := hS.out.sq
    have HL1 := hid (HL.out.call hB.out)
    have HO := hid h1; have HV := hid h2; have HF := hid hS.out.fits; have HT := hid hS.out.lim
    have k0 : wr.cell? ⟨bs, 0, none⟩ = some (.slice a2 l2 c2) := h1.cell 0
    have k1 : wr.cell? ⟨bf, 0, none⟩ = some (.bool fits) := hS.out.fits.cell 0
    have k2 : wr.cell? ⟨w.heap.size, 0, none⟩ = some (.int .i64 4000) := hS.out.lim.cell 0
    have HN := hid hn; have HN1 := hid hI.out.n1
    have HLO := hid (limbs_of_digits hI.out.small); have HLS := hid hI.out.lim
    clear h1 h2
    by_cases ho : n % 2 = 1
    · have q1 : (bits BinOp.and IntKind.u64 (n : Int) 1 == 1) = true := by rw [odd_test hn]; exact decide_eq_true ho
      have HO1 := hid ho
      clear ho hn
      go_wp2_with fail
      refine (l_Mul _ _ _ out sq hO.out HV.out (by have := HLO.out; omega) (by have := HLS.out; omega)).mono ?_; rintro e w1 ⟨⟨v1, rfl, hv1⟩, hb1⟩
      have HLM := hid (limbs_mul HLO.out HLS.out)
      obtain ⟨a3, c3, rfl, _⟩ := hv1.openI
      obtain ⟨l3, hl3⟩ : ∃ l, (limbs (out * sq)).length = l := ⟨_, rfl⟩
      rw [hl3] at hv1 ⊢
      have V1 := hid hv1; have F1 := hid (HF.out.call hb1); have T1 := hid (HT.out.call hb1); have B1 := hid (bnext hB.out hb1)
      have S1 : Hid (PowS w1 bs bf w.heap.size sq fits) := ⟨⟨_, _, _, HO.out.call hb1, HV.out.call hb1⟩, F1.out, T1.out, hS.out.n1, hS.out.n2, hS.out.n3⟩
      have m1 : w1.cell? ⟨bf, 0, none⟩ = some (.bool fits) := F1.out.cell 0
      have m2 : w1.cell? ⟨w.heap.size, 0, none⟩ = some (.int .i64 4000) := T1.out.cell 0
      have L1 := hid (HL1.out.call hb1); have B1x := hid hb1
      clear hb1 hv1 k0 k1 k2 hl3
      cases fits
      · go_wp2_with fail
        go_quiet (fail)
        go_wp2_with fail
        go_ret2
        exact ⟨.inr ⟨hI.out.big rfl, rfl⟩, below_drewN B1.out _⟩
      · go_wp2_with fail
        go_region_held3 (fun w' => w'.cell? ⟨bf, 0, none⟩ = some (.bool true) ∧ w'.cell? ⟨w.heap.size, 0, none⟩ = some (.int .i64 4000))
          (first | exact ⟨m1, m2⟩ | exact ⟨F2.out.cell 0, T2.out.cell 0⟩)
          (first
            | (go_at_call 160; refine (l_Digits _ _ (out * sq) (V1.out.call (Below.refl _ _).drew) (L1.out.call (Below.refl _ _).drew) (by have := HLM.out; omega)).mono ?_; rintro e w2 ⟨rfl, hb2⟩; have B2 := hid (show Below w1.heap.size w1 w2 from (Below.refl _ _).drew.trans hb2); have F2 := hid (F1.out.call B2.out); have T2 := hid (T1.out.call B2.out)))
        have S2 : Hid (PowS w2 bs bf w.heap.size sq true) := ⟨⟨_, _, _, (HO.out.call B1x.out).call B2.out, (HV.out.call B1x.out).call B2.out⟩, F2.out, T2.out, hS.out.n1, hS.out.n2, hS.out.n3⟩
        have V2 := hid (V1.out.call B2.out); have L2 := hid (L1.out.call B2.out); have BB2 := hid (bnext B1.out B2.out)
        clear m1 m2
        by_cases hd : 4000 < nDigits (out * sq)
        · have q2 : decide ((4000 : Int) < (nDigits (out * sq) : Nat)) = true := by simp; omega
          have HD := hid hd
          rw [q2]
          clear hd q2
          go_wp2_with fail
          go_ret2
          exact ⟨.inr ⟨hI.out.bigO HD.out, rfl⟩, BB2.out⟩
        · have q2 : decide ((4000 : Int) < (nDigits (out * sq) : Nat)) = false := by simp; omega
          have HD := hid (show nDigits (out * sq) ≤ 4000 by omega)
          rw [q2]
          clear hd q2
          have m1 : w2.cell? ⟨bf, 0, none⟩ = some (.bool true) := F2.out.cell 0
          by_cases h1 : n = 1
          · have HD1 := hid (hI.out.done h1)
            subst h1
            go_wp2_with fail
            go_ret2
            exact ⟨.inl ⟨by rw [← HD1.out]; exact HD.out, _, rfl, by rw [← HD1.out]; exact V2.out⟩, BB2.out⟩
          · have h2 : 1 ≤ n / 2 := by have := HO1.out; omega
            have HN2' := hid h2
            have q3 : ((n : Int) / 2 == 0) = false := by rw [beq_eq_false_iff_ne]; omega
            have HI2 := hid (hI.out.odd rfl HO1.out HD.out h2)
            clear h1 h2
            go_wp2_with fail
            refine (l_Pow1 _ bs bf w.heap.size sq w.heap.size true S2.out HBS.out HBF.out BB2.out.size (hI.out.len rfl) L2.out HLL.out).mono ?_; rintro e w5 ⟨⟨v5, rfl⟩, hp5, hk5, hb5⟩
            have P5 := hid hp5; have O5 := hid (hk5 _ _ _ V2.out); have B5 := hid (BB2.out.trans hb5)
            clear hp5 hk5 hb5
            go_wp2_with fail
            go_roundw
            case rel => exact ⟨n / 2, out * sq, sq * sq, _, _, _, _, by rw [show ((n : Int) / 2) = ((n / 2 : Nat) : Int) by omega], rfl, HI2, O5, P5, B5, by have := HN.out; omega⟩
            case measure => simp [intOf] <;> (have := HN1.out; omega)
    · have q1 : (bits BinOp.and IntKind.u64 (n : Int) 1 == 1) = false := by rw [odd_test hn]; exact decide_eq_false ho
      have h0 : n % 2 = 0 := by omega
      have h2 : 1 ≤ n / 2 := by have := HN1.out; omega
      have q3 : ((n : Int) / 2 == 0) = false := by rw [beq_eq_false_iff_ne]; omega
      have H0 := hid h0
      clear ho hn h0 h2
      cases fits
      · go_wp2_with fail
        go_ret2
        exact ⟨.inr ⟨hI.out.big rfl, rfl⟩, hB.out⟩
      · have HI2 := hid (hI.out.even rfl H0.out)
        go_wp2_with fail
        refine (l_Pow1 _ bs bf w.heap.size sq w.heap.size true hS.out HBS.out HBF.out hB.out.size (hI.out.len rfl) HL1.out HLL.out).mono ?_; rintro e w5 ⟨⟨v5, rfl⟩, hp5, hk5, hb5⟩
        have P5 := hid hp5; have O5 := hid (hk5 _ _ _ hO.out); have B5 := hid (hB.out.trans hb5)
        clear hp5 hk5 hb5
        go_wp2_with fail
        go_roundw
        case rel => exact ⟨n / 2, out, sq * sq, _, _, _, _, by rw [show ((n : Int) / 2) = ((n / 2 : Nat) : Int) by omega], rfl, HI2, O5, P5, B5, by have := HN.out; omega⟩
        case measure => simp [intOf] <;> (have := HN1.out; omega)

theorem l_Pow (w : World) (v : Value) (a n : Nat) (ha : IsN .u64 w v a) (hl : (limbs a).length ≤ 100000) (hn2 : n < 18446744073709551616) (hL : Lay w) : Calls Tryz.prog 111 #[v, .int .u64 n, .int .i64 4000] w fun e w' => RetPowU (a ^ n) e w' ∧ Below w.heap.size w w' := by
  rcases Nat.eq_zero_or_pos n with rfl | hn
  · exact l_Pow_zero w v a ha
  · by_cases h : a ≤ 1
    · exact l_Pow_small w v a n ha h hn hn2
    · exact l_Pow_big w v a n ha (by omega) hl hn hn2 hL
end Go.Proofs.YtikfgddgfddbaaaGreatDoor

/- Walks: nat.Pow, geom.power. -/
namespace Go.Proofs.YtikfgddgfddbaaaGreatDoor
open Go.RowKit
open Go.Lib (decDigits nDigits)
set_option linter.unusedVariables false
set_option linter.unusedSimpArgs false

set_option maxRecDepth 100000 in
set_option maxHeartbeats 1000000 in
theorem n_Pow_ok (w : World) (s : ByteArray) (n : Nat) (hs : errN s.data.toList = 0) (hn : n ≤ 9223372036854775807) (hd : nDigits (bN s ^ n) ≤ 4000) (hL : Lay w) :
    Calls Tryz.prog 124 #[.string s, .int .i64 n] w fun e w' => e = .returned (.tuple #[.string (numB (bN s ^ n)), .int .i64 0]) ∧ Below w.heap.size w w' := by
  obtain ⟨d1, d2, d3⟩ := errN_dig hs
  have HC := fun V => hid (n_Check V s (by omega))
  rw [hs] at HC
  have HP := fun V => hid (l_Parse V s d1 (by omega))
  have hdv : dv s.data.toList = bN s := rfl
  rw [hdv] at HP
  have HW := fun V v hv hL => hid (l_Pow V v (bN s) n hv (by omega) (by omega) hL)
  have HR := fun V v hv hL => hid (n_result V v (bN s ^ n) hv (by have := limbs_of_digits hd; omega) hL)
  have e1 : resB (bN s ^ n) = numB (bN s ^ n) := by rw [resB, if_neg (by omega)]
  have e2 : resE (bN s ^ n) = 0 := by rw [resE, if_neg (by omega)]
  rw [e1, e2] at HR
  obtain ⟨R, hR⟩ : ∃ R, bN s ^ n = R := ⟨_, rfl⟩
  rw [hR] at HW HR hd ⊢
  have HD := hid hd; have HL := hid hL
  have hn0 : (0 : Int) ≤ (n : Int) := by omega
  have hn1 : (n : Int) ≤ 9223372036854775807 := by omega
  have q0 : decide ((n : Int) < 0) = false := by simp
  clear hs hn d1 d2 d3 hdv e1 e2 hR hd hL
  go_enter Tryz.func124, Tryz.ntmps124
  go_wp2_with fail
  refine (HC _).out.mono ?_; rintro e w1 ⟨rfl, hb1⟩
  have b1 := hid hb1; clear hb1
  go_wp2_with fail
  refine (HP _).out.mono ?_; rintro e w2 ⟨⟨v2, rfl, hv2⟩, hb2⟩
  have b2 := hid (bnext b1.out hb2); have V2 := hid hv2; clear hb2 hv2
  go_wp2_with fail
  refine (HW _ _ V2.out (HL.out.call b2.out)).out.mono ?_
  rintro e w3 ⟨h3, hb3⟩
  rcases h3 with ⟨-, v3, rfl, hv3⟩ | ⟨h3, -⟩
  · have b3 := hid (bnext b2.out hb3); have V3 := hid hv3; clear hb3 hv3
    go_wp2_with fail
    refine (HR _ _ V3.out (HL.out.call b3.out)).out.mono ?_; rintro e w4 ⟨rfl, hb4⟩
    have b4 := hid (bnext b3.out hb4); clear hb4
    go_wp2_with fail
    go_ret2
    exact ⟨rfl, b4.out⟩
  · exact absurd h3 (by have := HD.out; omega)

theorem two_digits {n : Nat} (h : n ≤ 1000) : nDigits (2 ^ n) ≤ 4000 := by
  have h1 : 2 ^ n < 10 ^ (n + 1) := by
    have h2 : 2 ^ n ≤ 10 ^ n := Nat.pow_le_pow_left (by omega) n
    have h3 : 10 ^ n < 10 ^ (n + 1) := Nat.pow_lt_pow_right (by omega) (by omega)
    omega
  exact Nat.le_trans (nDigits_le (Nat.succ_pos n) h1) (by omega)

theorem bN_two : bN ⟨#[50]⟩ = 2 := by decide
theorem errN_two : errN (⟨#[50]⟩ : ByteArray).data.toList = 0 := by decide

set_option maxRecDepth 100000 in
theorem g_power (w : World) (n : Nat) (hn : n ≤ 1000) (hL : Lay w) :
    Calls Tryz.prog 86 #[.int .i64 n] w fun e w' => e = .returned (.string (numB (2 ^ n))) ∧ Below w.heap.size w w' := by
  have HP := hid (n_Pow_ok w ⟨#[50]⟩ n errN_two (by omega) (by rw [bN_two]; exact two_digits hn) hL)
  rw [bN_two] at HP
  clear hn hL
  go_enter Tryz.func86, Tryz.ntmps86
  go_wp2_with fail
  refine HP.out.mono ?_; rintro e w1 ⟨rfl, hb1⟩
  have b1 := hid hb1; clear hb1
  go_wp2_with fail
  go_ret
  exact ⟨rfl, b1.out⟩
end Go.Proofs.YtikfgddgfddbaaaGreatDoor

/- Plain mathematics: the inverse and the product of rational numbers by their parts. -/
namespace Go.Proofs.YtikfgddgfddbaaaGreatDoor

theorem inv_num {q : Rat} (h0 : q ≠ 0) : (decide (q⁻¹.num < 0)) = decide (q.num < 0) ∧ q⁻¹.num.natAbs = q.den ∧ q⁻¹.den = q.num.natAbs := by
  have hn : q.num ≠ 0 := fun e => h0 (Rat.num_eq_zero.1 e)
  have hd := q.den_pos
  by_cases hneg : q.num < 0
  · have : q⁻¹ = Rat.inv q := rfl
    rw [this]; unfold Rat.inv; rw [dif_pos hneg]; simp [hneg]; omega
  · have hp : q.num > 0 := by omega
    have : q⁻¹ = Rat.inv q := rfl
    rw [this]; unfold Rat.inv; rw [dif_neg hneg, dif_pos hp]; simp [hneg]

theorem sgn_mul (p q : Int) : sgn (decide (p < 0) != decide (q < 0)) (p.natAbs * q.natAbs) = p * q := by
  have hp := sgn_of p
  have hq := sgn_of q
  generalize decide (p < 0) = m at *
  generalize decide (q < 0) = n at *
  generalize p.natAbs = a at *
  generalize q.natAbs = b at *
  subst hp hq
  cases m <;> cases n <;> simp [sgn, Int.neg_mul, Int.mul_neg]

theorem qmk_mul (p q : Rat) : qmk (decide (p.num < 0) != decide (q.num < 0)) (p.num.natAbs * q.num.natAbs) (p.den * q.den) = p * q := by
  unfold qmk
  rw [sgn_mul, Rat.mkRat_mul_mkRat _ _ _ _ |>.symm, Rat.mkRat_self, Rat.mkRat_self]
end Go.Proofs.YtikfgddgfddbaaaGreatDoor

/- Walks: the program's fractions: Zero, Make, Inv, Sign, Neg. -/
namespace Go.Proofs.YtikfgddgfddbaaaGreatDoor
open Go.RowKit
open Go.Lib (decDigits nDigits)
set_option linter.unusedVariables false

set_option maxHeartbeats 1000000 in
theorem f_Zero (w : World) : Calls Tryz.prog 170 #[] w fun e w' => RetQ .u64 0 e w' ∧ Below w.heap.size w w' := by
  go_enter Tryz.func170, Tryz.ntmps170
  go_wp2_with fail
  refine (l_Of _ 1 (by omega)).mono ?_; rintro e w1 ⟨⟨v1, rfl, hv1⟩, hb1⟩
  obtain ⟨a3, c3, rfl, _⟩ := hv1.openI
  have HV := hid hv1
  have HB := hid (show Blk w1 w.heap.size #[.bool false, .slice none 0 0, .slice none 0 0] 110 from (Blk.new w _ _).call hb1)
  have d0 := HB.out.cell 0
  have d1 := HB.out.cell 1
  have d2 := HB.out.cell 2
  have e0 := HB.out.free 0
  have e1 := HB.out.free 1
  have e2 := HB.out.free 2
  have HBB := hid hb1
  clear hb1 hv1
  simp at d0 d1 d2
  go_wp2_with fail
  obtain ⟨s1, s2⟩ := set3 HB.out false none a3 0 0 (limbs 1).length c3
  have f0 := s2.cell 0
  have f1 := s2.cell 1
  have f2 := s2.cell 2
  simp at f0 f1 f2
  refine bodyPost_ret (v := .agg #[.bool false, .slice none 0 0, .slice a3 (limbs 1).length c3]) (by simp [results, Tryz.results170, go_sem, f0, f1, f2]) rfl ⟨⟨_, rfl, IsQ.zero_ (s1 _ _ _ (IsN.zero _ _)) (s1 _ _ _ HV.out)⟩, ?_⟩
  exact (((((Below.refl _ _).alloc (Nat.le_refl _) _).trans (HBB.out.mono (by simp))).setCell (Nat.le_refl _) _).setCell (Nat.le_refl _) _).setCell (Nat.le_refl _) _

theorem qmk_red {m : Bool} {n d : Nat} (hn : 0 < n) (hd : 0 < d) {k : IntKind} {w : World} {N D : Value} (hg : Nat.gcd n d = 1) (h1 : IsN k w N n) (h2 : IsN k w D d) : IsQ k w (.agg #[.bool m, N, D]) (qmk m n d) :=
  IsQ.mk' hn hd (by rw [hg, Nat.div_one]; exact h1) (by rw [hg, Nat.div_one]; exact h2)

set_option maxRecDepth 100000 in
set_option maxHeartbeats 2000000 in
theorem f_Make (w : World) (m : Bool) (v u : Value) (n d : Nat) (hn : IsN .u64 w v n) (hd : IsN .u64 w u d) (h0 : 0 < d) (hln : (limbs n).length ≤ 1000000) (hld : (limbs d).length ≤ 1000000) :
    Calls Tryz.prog 130 #[.bool m, v, u] w fun e w' => RetQ .u64 (qmk m n d) e w' ∧ Below w.heap.size w w' := by
  have HN := hid hn; have HD := hid hd
  obtain ⟨a1, c1, rfl, _⟩ := hn.openI
  obtain ⟨a2, c2, rfl, _⟩ := hd.openI
  obtain ⟨k1, hk1⟩ : ∃ k, (limbs n).length = k := ⟨_, rfl⟩
  obtain ⟨k2, hk2⟩ : ∃ k, (limbs d).length = k := ⟨_, rfl⟩
  have LN := hid hln; have LD := hid hld; have H0 := hid h0
  rw [hk1] at HN ⊢
  rw [hk2] at HD ⊢
  have b0 := hid ((Below.refl w.heap.size w).alloc (Nat.le_refl _) (.cells #[.bool false, .slice none 0 0, .slice none 0 0] 110))
  have x0 := hid (Blk.new w #[.bool false, .slice none 0 0, .slice none 0 0] 110)
  have N0 := hid (HN.out.call b0.out); have D0 := hid (HD.out.call b0.out)
  clear hn hd hln hld h0 hk1 hk2
  rcases Nat.eq_zero_or_pos n with rfl | hp
  · have hq := hid (qmk_zero m d)
    rw [hq.out]
    have hz : isZ 0 = true := rfl
    go_enter Tryz.func130, Tryz.ntmps130
    go_wp2_with fail
    refine (l_Zero _ _ _ N0.out).mono ?_; rintro e w1 ⟨rfl, rfl⟩
    rw [hz]
    clear hz
    go_wp2_with fail
    refine (f_Zero _).mono ?_; rintro e w1 ⟨⟨v1, rfl, hv1⟩, hb1⟩
    obtain ⟨M, D, rfl, h2, h3⟩ := hv1.ex
    obtain ⟨a3, c3, rfl, _⟩ := h2.openI
    obtain ⟨a4, c4, rfl, _⟩ := h3.openI
    have hm : decide ((0 : Rat).num < 0) = false := rfl
    rw [hm]
    have HB := hid (x0.out.call hb1)
    have BB := hid (bnext b0.out hb1)
    have d0 := HB.out.cell 0
    have d1 := HB.out.cell 1
    have d2 := HB.out.cell 2
    have e0 := HB.out.free 0
    have e1 := HB.out.free 1
    have e2 := HB.out.free 2
    have H2 := hid h2; have H3 := hid h3
    clear hb1 hv1 h2 h3 hm
    simp at d0 d1 d2
    obtain ⟨l1, hl1⟩ : ∃ k, (limbs (0 : Rat).num.natAbs).length = k := ⟨_, rfl⟩
    obtain ⟨l2, hl2⟩ : ∃ k, (limbs (0 : Rat).den).length = k := ⟨_, rfl⟩
    rw [hl1] at H2 ⊢
    rw [hl2] at H3 ⊢
    clear hl1 hl2
    go_wp2_with fail
    obtain ⟨s1, s2⟩ := set3 HB.out false a3 a4 l1 c3 l2 c4
    have f0 := s2.cell 0
    have f1 := s2.cell 1
    have f2 := s2.cell 2
    simp at f0 f1 f2
    refine bodyPost_ret (v := .agg #[.bool false, .slice a3 l1 c3, .slice a4 l2 c4]) (by simp [results, Tryz.results130, go_sem, f0, f1, f2]) rfl ⟨⟨_, rfl, ⟨_, _, rfl, s1 _ _ _ H2.out, s1 _ _ _ H3.out⟩⟩, ?_⟩
    exact ((BB.out.setCell (Nat.le_refl _) _).setCell (Nat.le_refl _) _).setCell (Nat.le_refl _) _
  · have hz : isZ n = false := by unfold isZ; simpa using (by omega : n ≠ 0)
    have HP := hid hp
    clear hp
    by_cases h1 : d = 1
    · have ho : isO d = true := isO_iff.2 h1
      have HG := hid (show Nat.gcd n d = 1 by rw [h1, Nat.gcd_one_right])
      clear h1
      go_enter Tryz.func130, Tryz.ntmps130
      go_wp2_with fail
      refine (l_Zero _ _ _ N0.out).mono ?_; rintro e w1 ⟨rfl, rfl⟩
      rw [hz]
      clear hz
      go_wp2_with fail
      refine (l_One _ _ _ D0.out).mono ?_; rintro e w1 ⟨rfl, rfl⟩
      rw [ho]
      clear ho
      go_wp2_with fail
      have hB := Blk.new w #[.bool m, .slice a1 k1 c1, .slice a2 k2 c2] 110
      have f0 := hB.cell 0
      have f1 := hB.cell 1
      have f2 := hB.cell 2
      simp at f0 f1 f2
      have b1 := (Below.refl w.heap.size w).alloc (Nat.le_refl _) (.cells #[.bool m, .slice a1 k1 c1, .slice a2 k2 c2] 110)
      refine bodyPost_ret (v := .agg #[.bool m, .slice a1 k1 c1, .slice a2 k2 c2]) (by simp [results, Tryz.results130, go_sem]) rfl ⟨⟨_, rfl, qmk_red HP.out H0.out HG.out (HN.out.call b1) (HD.out.call b1)⟩, b1⟩
    · have ho : isO d = false := by unfold isO; simpa using h1
      obtain ⟨g, hg⟩ : ∃ g, Nat.gcd n d = g := ⟨_, rfl⟩
      have hgp : 0 < g := hg ▸ Nat.gcd_pos_of_pos_left d HP.out
      have HG := hid hg; have HGP := hid hgp
      clear h1 hg hgp
      go_enter Tryz.func130, Tryz.ntmps130
      go_wp2_with fail
      refine (l_Zero _ _ _ N0.out).mono ?_; rintro e w1 ⟨rfl, rfl⟩
      rw [hz]
      clear hz
      go_wp2_with fail
      refine (l_One _ _ _ D0.out).mono ?_; rintro e w1 ⟨rfl, rfl⟩
      rw [ho]
      clear ho
      go_wp2_with fail
      refine (l_Gcd _ _ _ _ _ N0.out D0.out LN.out LD.out).mono ?_
      rintro e w1 ⟨⟨v1, rfl, hv1⟩, hb1⟩
      rw [HG.out] at hv1
      have x1 := hid (x0.out.call hb1)
      have b1 := hid (bnext b0.out hb1)
      have N1 := hid (N0.out.call hb1); have D1 := hid (D0.out.call hb1); have G1 := hid hv1
      clear hb1 hv1
      obtain ⟨a5, c5, rfl, _⟩ := G1.out.openI
      obtain ⟨k5, hk5⟩ : ∃ k, (limbs g).length = k := ⟨_, rfl⟩
      rw [hk5] at G1 ⊢
      clear hk5
      go_wp2_with fail
      refine (l_One _ _ _ G1.out).mono ?_; rintro e w2 ⟨rfl, rfl⟩
      by_cases hg1 : g = 1
      · have ho : isO g = true := isO_iff.2 hg1
        have HG1 := hid (show Nat.gcd n d = 1 by rw [HG.out, hg1])
        rw [ho]
        have d0 := x1.out.cell 0
        have d1 := x1.out.cell 1
        have d2 := x1.out.cell 2
        have e0 := x1.out.free 0
        have e1 := x1.out.free 1
        have e2 := x1.out.free 2
        simp at d0 d1 d2
        clear ho hg1
        go_wp2_with fail
        obtain ⟨s1, s2⟩ := set3 x1.out m a1 a2 k1 c1 k2 c2
        have f0 := s2.cell 0
        have f1 := s2.cell 1
        have f2 := s2.cell 2
        simp at f0 f1 f2
        refine bodyPost_ret (v := .agg #[.bool m, .slice a1 k1 c1, .slice a2 k2 c2]) (by simp [results, Tryz.results130, go_sem, f0, f1, f2]) rfl ⟨⟨_, rfl, qmk_red HP.out H0.out HG1.out (s1 _ _ _ N1.out) (s1 _ _ _ D1.out)⟩, ?_⟩
        exact ((b1.out.setCell (Nat.le_refl _) _).setCell (Nat.le_refl _) _).setCell (Nat.le_refl _) _
      · have ho : isO g = false := by unfold isO; simpa using hg1
        rw [ho]
        clear ho hg1
        go_wp2_with fail
        refine (l_DivMod _ _ _ n g N1.out G1.out HGP.out LN.out).mono ?_
        rintro e w2 ⟨⟨v2, v3, rfl, hv2, -⟩, hb2⟩
        have x2 := hid (x1.out.call hb2); have b2 := hid (bnext b1.out hb2); have D2 := hid (D1.out.call hb2); have G2 := hid (G1.out.call hb2); have V2 := hid hv2
        clear hb2 hv2
        go_wp2_with fail
        refine (l_DivMod _ _ _ d g D2.out G2.out HGP.out LD.out).mono ?_
        rintro e w3 ⟨⟨v4, v5, rfl, hv4, -⟩, hb3⟩
        have x3 := hid (x2.out.call hb3); have b3 := hid (bnext b2.out hb3); have W2 := hid (V2.out.call hb3); have W4 := hid hv4
        clear hb3 hv4
        obtain ⟨a6, c6, rfl, _⟩ := W2.out.openI
        obtain ⟨a7, c7, rfl, _⟩ := W4.out.openI
        have d0 := x3.out.cell 0
        have d1 := x3.out.cell 1
        have d2 := x3.out.cell 2
        have e0 := x3.out.free 0
        have e1 := x3.out.free 1
        have e2 := x3.out.free 2
        simp at d0 d1 d2
        go_wp2_with fail
        obtain ⟨s1, s2⟩ := set3 x3.out m a6 a7 (limbs (n / g)).length c6 (limbs (d / g)).length c7
        have f0 := s2.cell 0
        have f1 := s2.cell 1
        have f2 := s2.cell 2
        simp at f0 f1 f2
        refine bodyPost_ret (v := .agg #[.bool m, .slice a6 (limbs (n / g)).length c6, .slice a7 (limbs (d / g)).length c7]) (by simp [results, Tryz.results130, go_sem, f0, f1, f2]) rfl ⟨⟨_, rfl, IsQ.mk' HP.out H0.out (HG.out ▸ s1 _ _ _ W2.out) (HG.out ▸ s1 _ _ _ W4.out)⟩, ?_⟩
        exact ((b3.out.setCell (Nat.le_refl _) _).setCell (Nat.le_refl _) _).setCell (Nat.le_refl _) _

theorem f_Inv (w : World) (v : Value) (q : Rat) (h : IsQ .u64 w v q) (h0 : q ≠ 0) :
    Calls Tryz.prog 110 #[v] w fun e w' => RetQ .u64 q⁻¹ e w' ∧ Below w.heap.size w w' := by
  obtain ⟨N, D, rfl, hn, hd⟩ := h.ex
  obtain ⟨m, hm⟩ : ∃ m, decide (q.num < 0) = m := ⟨_, rfl⟩
  have HN := hid hn; have HD := hid hd; have HM := hid hm; have H0 := hid h0
  rw [hm]
  obtain ⟨a1, c1, rfl, _⟩ := hn.openI
  obtain ⟨a2, c2, rfl, _⟩ := hd.openI
  clear hn hd hm h0 h
  go_enter Tryz.func110, Tryz.ntmps110
  go_wp2_with fail
  obtain ⟨p1, p2, p3⟩ := inv_num H0.out
  have B := ((Below.refl w.heap.size w).alloc (Nat.le_refl _) (.cells #[.bool m, .slice a1 (limbs q.num.natAbs).length c1, .slice a2 (limbs q.den).length c2] 110)).alloc (by simp) (.cells #[.bool m, .slice a2 (limbs q.den).length c2, .slice a1 (limbs q.num.natAbs).length c1] 110)
  refine bodyPost_ret (v := .agg #[.bool m, .slice a2 (limbs q.den).length c2, .slice a1 (limbs q.num.natAbs).length c1]) (by simp [results, Tryz.results110, go_sem]) rfl ⟨⟨_, rfl, ⟨_, _, rfl.trans ?_, by rw [p2]; exact HD.out.call B, by rw [p3]; exact HN.out.call B⟩⟩, B⟩
  rw [p1, HM.out]

/-- The sign of a number. -/
def sgQ (q : Rat) : Int := if q.num = 0 then 0 else if q.num < 0 then -1 else 1

theorem sgQ_zero {q : Rat} (h : q.num = 0) : sgQ q = 0 := if_pos h
theorem sgQ_neg {q : Rat} (h : ¬ q.num = 0) (h2 : q.num < 0) : sgQ q = -1 := by rw [sgQ, if_neg h, if_pos h2]
theorem sgQ_pos {q : Rat} (h : ¬ q.num = 0) (h2 : ¬ q.num < 0) : sgQ q = 1 := by rw [sgQ, if_neg h, if_neg h2]

theorem f_Sign (w : World) (v : Value) (q : Rat) (h : IsQ .u64 w v q) :
    Calls Tryz.prog 109 #[v] w fun e w' => e = .returned (.int .i64 (sgQ q)) ∧ Below w.heap.size w w' := by
  obtain ⟨N, D, rfl, hn, hd⟩ := h.ex
  obtain ⟨m, hm⟩ : ∃ m, decide (q.num < 0) = m := ⟨_, rfl⟩
  have HN := hid hn; have HM := hid hm
  rw [hm]
  obtain ⟨a1, c1, rfl, _⟩ := hn.openI
  obtain ⟨a2, c2, rfl, _⟩ := hd.openI
  obtain ⟨k1, hk1⟩ : ∃ k, (limbs q.num.natAbs).length = k := ⟨_, rfl⟩
  obtain ⟨k2, hk2⟩ : ∃ k, (limbs q.den).length = k := ⟨_, rfl⟩
  rw [hk1] at HN ⊢
  rw [hk2]
  have b0 := hid ((Below.refl w.heap.size w).alloc (Nat.le_refl _) (.cells #[.bool m, .slice a1 k1 c1, .slice a2 k2 c2] 110))
  have N0 := hid (HN.out.call b0.out)
  clear hn hd hm h hk1 hk2
  go_enter Tryz.func109, Tryz.ntmps109
  go_wp2_with fail
  refine (l_Zero _ _ _ N0.out).mono ?_; rintro e w1 ⟨rfl, rfl⟩
  by_cases hz : q.num = 0
  · have h1 : isZ q.num.natAbs = true := isZ_iff.2 (by omega)
    rw [h1]
    have HZ := hid hz
    clear h1 hz
    go_wp2_with fail
    go_ret
    exact ⟨ret_int (sgQ_zero HZ.out).symm, b0.out⟩
  · have h1 : isZ q.num.natAbs = false := decide_eq_false (by omega)
    rw [h1]
    have HZ := hid hz
    clear h1 hz
    cases m
    · go_wp2_with fail
      go_ret
      exact ⟨ret_int (sgQ_pos HZ.out (of_decide_eq_false HM.out)).symm, b0.out⟩
    · go_wp2_with fail
      go_ret
      exact ⟨ret_int (sgQ_neg HZ.out (of_decide_eq_true HM.out)).symm, b0.out⟩

theorem neg_partsU {q : Rat} {m : Bool} (hm : decide (q.num < 0) = m) : decide ((-q).num < 0) = (!m && !isZ q.num.natAbs) ∧ (-q).num.natAbs = q.num.natAbs ∧ (-q).den = q.den := by
  refine ⟨?_, by rw [Rat.neg_num, Int.natAbs_neg], Rat.neg_den q⟩
  rw [Rat.neg_num, ← hm, Bool.eq_iff_iff]
  unfold isZ
  simp only [Bool.and_eq_true, Bool.not_eq_true', decide_eq_true_eq, decide_eq_false_iff_not]
  omega

set_option maxRecDepth 100000 in
set_option maxHeartbeats 1000000 in
theorem f_Neg (w : World) (v : Value) (q : Rat) (h : IsQ .u64 w v q) :
    Calls Tryz.prog 164 #[v] w fun e w' => RetQ .u64 (-q) e w' ∧ Below w.heap.size w w' := by
  obtain ⟨N, D, rfl, hn, hd⟩ := h.ex
  obtain ⟨m, hm⟩ : ∃ m, decide (q.num < 0) = m := ⟨_, rfl⟩
  have HN := hid hn; have HD := hid hd; have HP := hid (neg_partsU hm)
  rw [hm]
  obtain ⟨a1, c1, rfl, _⟩ := hn.openI
  obtain ⟨a2, c2, rfl, _⟩ := hd.openI
  obtain ⟨k1, hk1⟩ : ∃ k, (limbs q.num.natAbs).length = k := ⟨_, rfl⟩
  obtain ⟨k2, hk2⟩ : ∃ k, (limbs q.den).length = k := ⟨_, rfl⟩
  rw [hk1] at HN ⊢
  rw [hk2] at HD ⊢
  have HZ := fun W h => hid (l_Zero W (.slice a1 k1 c1) q.num.natAbs h)
  obtain ⟨z, hz⟩ : ∃ z, isZ q.num.natAbs = z := ⟨_, rfl⟩
  rw [hz] at HP HZ
  clear hn hd hm h hk1 hk2 hz
  have b1 := hid (((Below.refl w.heap.size w).alloc (Nat.le_refl _) (.cells #[.bool m, .slice a1 k1 c1, .slice a2 k2 c2] 110)).alloc (by simp) (.cells #[.bool false, .slice none 0 0, .slice none 0 0] 110))
  cases m
  · go_enter Tryz.func164, Tryz.ntmps164
    go_wp2_with fail
    refine region_tail 14 (by kernel_rfl) (by kernel_rfl) ?_
    simp only [List.take_succ_cons, List.take_zero, List.drop_succ_cons, List.drop_zero]
    iterate 6 still_step
    still_call ((HZ _ (HN.out.call b1.out.drew)).out.mono fun _ _ h => ⟨h.1, h.2.symm⟩)
    iterate 7 still_step
    refine wpStill_nil ?_
    go_wp2_with fail
    have b2 := (((Below.refl w.heap.size w).alloc (Nat.le_refl _) (.cells #[.bool false, .slice a1 k1 c1, .slice a2 k2 c2] 110)).alloc (by simp) (.cells #[.bool (!z), .slice a1 k1 c1, .slice a2 k2 c2] 110)).drew
    obtain ⟨p1, p2, p3⟩ := HP.out
    refine bodyPost_ret (v := .agg #[.bool (!z), .slice a1 k1 c1, .slice a2 k2 c2]) (by simp [results, Tryz.results164, go_sem]) rfl ⟨⟨_, rfl, ⟨.slice a1 k1 c1, .slice a2 k2 c2, ?_, ?_, ?_⟩⟩, b2⟩
    · rw [p1]; rfl
    · rw [p2]; exact HN.out.call b2
    · rw [p3]; exact HD.out.call b2
  · go_enter Tryz.func164, Tryz.ntmps164
    go_wp2_with fail
    refine region_tail 14 (by kernel_rfl) (by kernel_rfl) ?_
    simp only [List.take_succ_cons, List.take_zero, List.drop_succ_cons, List.drop_zero]
    iterate 14 still_step
    refine wpStill_nil ?_
    go_wp2_with fail
    have b2 := (((Below.refl w.heap.size w).alloc (Nat.le_refl _) (.cells #[.bool true, .slice a1 k1 c1, .slice a2 k2 c2] 110)).alloc (by simp) (.cells #[.bool false, .slice a1 k1 c1, .slice a2 k2 c2] 110)).drew
    obtain ⟨p1, p2, p3⟩ := HP.out
    refine bodyPost_ret (v := .agg #[.bool false, .slice a1 k1 c1, .slice a2 k2 c2]) (by simp [results, Tryz.results164, go_sem]) rfl ⟨⟨_, rfl, ⟨.slice a1 k1 c1, .slice a2 k2 c2, ?_, ?_, ?_⟩⟩, b2⟩
    · rw [p1]; rfl
    · rw [p2]; exact HN.out.call b2
    · rw [p3]; exact HD.out.call b2
end Go.Proofs.YtikfgddgfddbaaaGreatDoor

/- Walks: the program's fractions: Num. -/
namespace Go.Proofs.YtikfgddgfddbaaaGreatDoor
open Go.RowKit
open Go.Lib (decDigits nDigits)
set_option linter.unusedVariables false
set_option linter.unusedSimpArgs false

theorem outB_ov {q : Rat} (h : ovQ q) : outB q = ⟨#[]⟩ := if_pos h
theorem outB_ok {q : Rat} (h : ¬ ovQ q) : outB q = txQ q := if_neg h
theorem outE_ov {q : Rat} (h : ovQ q) : outE q = 5 := if_pos h
theorem outE_ok {q : Rat} (h : ¬ ovQ q) : outE q = 0 := if_neg h

theorem ba_append (a b : ByteArray) : (a ++ b).data.toList = a.data.toList ++ b.data.toList := by simp

theorem txB_ff (n : Nat) : txB false n 1 = numB n := by apply ba_ext; simp [txB, numB]
theorem txB_tf (n : Nat) : txB true n 1 = ⟨#[45]⟩ ++ numB n := by apply ba_ext; rw [ba_append, txB_list, numB_list]; simp
theorem txB_ft (n d : Nat) (h : d ≠ 1) : txB false n d = numB n ++ (⟨#[47]⟩ ++ numB d) := by apply ba_ext; rw [ba_append, ba_append, txB_list, numB_list, numB_list, if_neg h]; simp
theorem txB_tt (n d : Nat) (h : d ≠ 1) : txB true n d = ⟨#[45]⟩ ++ numB n ++ (⟨#[47]⟩ ++ numB d) := by apply ba_ext; rw [ba_append, ba_append, ba_append, txB_list, numB_list, numB_list, if_neg h]; simp

set_option maxRecDepth 100000 in
set_option maxHeartbeats 2000000 in
theorem f_Num (w : World) (v : Value) (q : Rat) (h : IsQ .u64 w v q) (h1 : (limbs q.num.natAbs).length ≤ 1000000) (h2 : (limbs q.den).length ≤ 1000000) (hL : Lay w) :
    Calls Tryz.prog 112 #[v] w fun e w' => e = .returned (.tuple #[.string (outB q), .int .i64 (outE q)]) ∧ Below w.heap.size w w' := by
  obtain ⟨N, D, rfl, hn, hd⟩ := h.ex
  obtain ⟨m, hm⟩ : ∃ m, decide (q.num < 0) = m := ⟨_, rfl⟩
  have HN := hid hn; have HD := hid hd; have HM := hid hm; have HL := hid hL; have L1 := hid h1; have L2 := hid h2
  rw [hm]
  obtain ⟨a1, c1, rfl, _⟩ := hn.openI
  obtain ⟨a2, c2, rfl, _⟩ := hd.openI
  obtain ⟨k1, hk1⟩ : ∃ k, (limbs q.num.natAbs).length = k := ⟨_, rfl⟩
  obtain ⟨k2, hk2⟩ : ∃ k, (limbs q.den).length = k := ⟨_, rfl⟩
  rw [hk1] at HN ⊢
  rw [hk2] at HD ⊢
  have b0 := hid ((Below.refl w.heap.size w).alloc (Nat.le_refl _) (.cells #[.bool m, .slice a1 k1 c1, .slice a2 k2 c2] 110))
  have x0 := hid (Blk.new w #[.bool m, .slice a1 k1 c1, .slice a2 k2 c2] 110)
  have N0 := hid (HN.out.call b0.out); have D0 := hid (HD.out.call b0.out)
  clear hn hd hm h hk1 hk2 hL h1 h2
  by_cases o1 : 4000 < nDigits q.num.natAbs
  · have ho : ovQ q := .inl o1
    rw [outB_ov ho, outE_ov ho]
    have q0 : decide ((4000 : Int) < (nDigits q.num.natAbs : Nat)) = true := by simp; omega
    clear o1 ho
    go_enter Tryz.func112, Tryz.ntmps112
    go_wp2_with fail
    refine (l_Digits _ _ _ N0.out (HL.out.call b0.out) L1.out).mono ?_; rintro e w1 ⟨rfl, hb1⟩
    have b1 := hid (bnext b0.out hb1); clear hb1
    go_wp2_with fail
    go_ret2
    exact ⟨rfl, b1.out⟩
  · have q0 : decide ((4000 : Int) < (nDigits q.num.natAbs : Nat)) = false := by simp; omega
    by_cases o2 : 4000 < nDigits q.den
    · have ho : ovQ q := .inr o2
      rw [outB_ov ho, outE_ov ho]
      have q1 : decide ((4000 : Int) < (nDigits q.den : Nat)) = true := by simp; omega
      clear o1 ho o2
      go_enter Tryz.func112, Tryz.ntmps112
      go_wp2_with fail
      refine (l_Digits _ _ _ N0.out (HL.out.call b0.out) L1.out).mono ?_; rintro e w1 ⟨rfl, hb1⟩
      have b1 := hid (bnext b0.out hb1); have D1 := hid (D0.out.call hb1)
      have x1 := x0.out.call hb1
      have r2 := x1.cell 2
      simp at r2
      clear hb1 x1
      go_wp2_with fail
      refine (l_Digits _ _ _ D1.out (HL.out.call b1.out) L2.out).mono ?_; rintro e w2 ⟨rfl, hb2⟩
      have b2 := hid (bnext b1.out hb2); clear hb2 r2
      go_wp2_with fail
      go_ret2
      exact ⟨rfl, b2.out⟩
    · have ho : ¬ ovQ q := fun h => h.elim o1 o2
      rw [outB_ok ho, outE_ok ho]
      have q1 : decide ((4000 : Int) < (nDigits q.den : Nat)) = false := by simp; omega
      obtain ⟨z, hz⟩ : ∃ z, isO q.den = z := ⟨_, rfl⟩
      have HO := fun W h => hid (l_One W (.slice a2 k2 c2) q.den h)
      rw [hz] at HO
      have HT : Hid (txQ q = txB m q.num.natAbs q.den) := by rw [← HM.out]; rfl
      have HZ := hid hz
      rw [HT.out]
      obtain ⟨T, hT⟩ : ∃ T, txB m q.num.natAbs q.den = T := ⟨_, rfl⟩
      have HTT := hid hT
      rw [hT]
      have HS1 := fun W hv hL => hid (l_String W (.slice a1 k1 c1) q.num.natAbs hv hL L1.out)
      have HS2 := fun W hv hL => hid (l_String W (.slice a2 k2 c2) q.den hv hL L2.out)
      have en : (⟨(Lib.decDigits q.num.natAbs).toArray⟩ : ByteArray) = numB q.num.natAbs := rfl
      have ed : (⟨(Lib.decDigits q.den).toArray⟩ : ByteArray) = numB q.den := rfl
      rw [en] at HS1
      rw [ed] at HS2
      obtain ⟨sn, hsn⟩ : ∃ s, numB q.num.natAbs = s := ⟨_, rfl⟩
      obtain ⟨sd, hsd⟩ : ∃ s, numB q.den = s := ⟨_, rfl⟩
      rw [hsn] at HS1
      rw [hsd] at HS2
      have HSN := hid hsn; have HSD := hid hsd
      have hs1 : sn.size ≤ 4000 := by rw [← hsn, numB_size]; omega
      have hs2 : sd.size ≤ 4000 := by rw [← hsd, numB_size]; omega
      clear o1 ho o2 hT hz en ed hsn hsd
      go_enter Tryz.func112, Tryz.ntmps112
      go_wp2_with fail
      refine (l_Digits _ _ _ N0.out (HL.out.call b0.out) L1.out).mono ?_; rintro e w1 ⟨rfl, hb1⟩
      have b1 := hid (bnext b0.out hb1); have D1 := hid (D0.out.call hb1); have x1 := hid (x0.out.call hb1); have N1 := hid (N0.out.call hb1)
      have r2 := x1.out.cell 2
      simp at r2
      clear hb1
      go_wp2_with fail
      refine (l_Digits _ _ _ D1.out (HL.out.call b1.out) L2.out).mono ?_; rintro e w2 ⟨rfl, hb2⟩
      have b2 := hid (bnext b1.out hb2); have D2 := hid (D1.out.call hb2); have x2 := hid (x1.out.call hb2); have N2 := hid (N1.out.call hb2)
      have r1 := x2.out.cell 1
      simp at r1
      clear hb2 r2
      go_wp2_with fail
      refine (HS1 _ N2.out (HL.out.call b2.out)).out.mono ?_; rintro e w3 ⟨rfl, hb3⟩
      have b3 := hid (bnext b2.out hb3); have D3 := hid (D2.out.call hb3); have x3 := hid (x2.out.call hb3)
      have r0 := x3.out.cell 0
      have r2 := x3.out.cell 2
      simp at r0 r2
      clear hb3 r1 HS1
      cases m
      · go_wp2_with fail
        refine (HO _ D3.out).out.mono ?_; rintro e w4 ⟨rfl, rfl⟩
        cases z
        · go_wp2_with fail
          refine (HS2 _ D3.out (HL.out.call b3.out)).out.mono ?_; rintro e w5 ⟨rfl, hb5⟩
          have b5 := hid (bnext b3.out hb5); clear hb5 r0 r2
          go_wp2_with fail
          go_ret2
          have hTe : T = sn ++ (⟨#[47]⟩ ++ sd) := by rw [← HTT.out, txB_ft _ _ (of_decide_eq_false HZ.out), HSN.out, HSD.out]
          exact ⟨by rw [hTe]; rfl, b5.out⟩
        · go_wp2_with fail
          go_ret2
          have hTe : T = sn := by rw [← HTT.out, isO_iff.1 HZ.out, txB_ff, HSN.out]
          exact ⟨by rw [hTe]; rfl, b3.out⟩
      · go_wp2_with fail
        refine (HO _ D3.out).out.mono ?_; rintro e w4 ⟨rfl, rfl⟩
        cases z
        · go_wp2_with fail
          refine (HS2 _ D3.out (HL.out.call b3.out)).out.mono ?_; rintro e w5 ⟨rfl, hb5⟩
          have b5 := hid (bnext b3.out hb5); clear hb5 r0 r2
          go_wp2_with fail
          go_ret2
          have hTe : T = ⟨#[45]⟩ ++ sn ++ (⟨#[47]⟩ ++ sd) := by rw [← HTT.out, txB_tt _ _ (of_decide_eq_false HZ.out), HSN.out, HSD.out]
          exact ⟨by rw [hTe]; rfl, b5.out⟩
        · go_wp2_with fail
          go_ret2
          have hTe : T = ⟨#[45]⟩ ++ sn := by rw [← HTT.out, isO_iff.1 HZ.out, txB_tf, HSN.out]
          exact ⟨by rw [hTe]; rfl, b3.out⟩
end Go.Proofs.YtikfgddgfddbaaaGreatDoor
