/- Walks: the reference's Add. -/
import Derived.Test.YtjpkglgbcflbnaaRefDue
import Derived.Test.YtjpkglgbcflbnaaPosMath
import Derived.Test.YtjpkglgbcflbnaaLast
namespace Go.Proofs.Ytjpkglgbcflbnaa
open Go.RowKit

theorem radd_range (w : World) (b : Nat) (r : Option Nat) (s : Int) (l : List Tk) (h : RQ w b r s l) (t n k : Int) (hbad : t < 0 ∨ ¬ relOk s n k) : Calls Try.prog 22 #[.pointer (some ⟨b, 0, none⟩), .int .i64 t, .int .i64 n, .int .i64 k] w fun e w' =>
    e = .returned (.tuple #[.int .i64 0, .int .i64 2]) ∧ w = w' := by
  obtain ⟨c0, _⟩ := h.cells
  clear h
  by_cases hr : relOk s n k
  · have ht : t < 0 := hbad.resolve_right (fun h => h hr)
    have HR := hid hr; clear hbad hr
    go_enter Try.func22, Try.ntmps22
    go_wp2_with fail
    refine (refRelease_ok s n k w HR.out).mono ?_; rintro e w1 ⟨rfl, rfl⟩
    go_wp2_with fail
    go_ret2
    exact ⟨rfl, rfl⟩
  · have HR := hid hr; clear hbad hr
    by_cases ht : t < 0
    · go_enter Try.func22, Try.ntmps22
      go_wp2_with fail
      refine (refRelease_bad s n k w HR.out).mono ?_; rintro e w1 ⟨rfl, rfl⟩
      go_wp2_with fail
      go_ret2
      exact ⟨rfl, rfl⟩
    · have ht' : decide (t < 0) = false := by simp; omega
      go_enter Try.func22, Try.ntmps22
      go_wp2_with fail
      refine (refRelease_bad s n k w HR.out).mono ?_; rintro e w1 ⟨rfl, rfl⟩
      go_wp2_with fail
      go_ret2
      exact ⟨rfl, rfl⟩

/-- What Add leaves at a ticket and a time that fit. -/
def AddR (w : World) (b : Nat) (s t z : Int) (l : List Tk) (e : Ending) (w' : World) : Prop :=
  (hasL l t = true ∧ e = .returned (.tuple #[.int .i64 0, .int .i64 8]) ∧ Below w.heap.size w w') ∨
  (hasL l t = false ∧ e = .returned (.tuple #[.int .i64 z, .int .i64 0]) ∧ ∃ r', RQ w' b r' s (ins (z, t) l) ∧ Keep2 w w' b none ∧ ∀ x, r' = some x → w.heap.size ≤ x)

theorem app_next {B : Nat} {wr W W' : World} {v v' : Value} (hB : Below B wr W) (hBs : B ≤ wr.heap.size) (hv : ∀ x, v.ownBlock = some x → B ≤ x) (hg : W.grownBy W' v.ownBlock) (hat : v'.ownBlock = v.ownBlock ∨ v'.ownBlock = some W.heap.size) :
    Below B wr W' ∧ ∀ x, v'.ownBlock = some x → B ≤ x := by
  have hs := hB.size
  refine ⟨hB.trans ⟨hg.os, hg.tape, hg.output, hg.size, fun k hk => hg.block k (by omega) (fun e => by have := hv k e.symm; omega)⟩, fun x hx => ?_⟩
  rcases hat with e | e
  · exact hv x (e.symm.trans hx)
  · rw [hx] at e; simp at e; omega

theorem empty_any {W : World} {k : Nat} (h : Blk W k #[] 73) : W.ownsRow 0 73 2 (.slice (some ⟨k, 0, none⟩) 0 0) 0 [] :=
  ⟨rfl, .inr ⟨k, 0, #[], rfl, Nat.zero_le _, h, Nat.le_refl _, by unfold maxLen; omega, rfl, rfl⟩⟩

theorem one_src {W : World} {k : Nat} {x y : Int} (h : Blk W k #[.int .i64 x, .int .i64 y] 73) : Src W (some ⟨k, 0, none⟩) 1 [.int .i64 x, .int .i64 y] := by
  refine ⟨rfl, by simp [Value.oneCell'], fun j u hu => ⟨_, rfl, ?_⟩⟩
  rw [Addr.add_lit, h.cell, Nat.zero_add]
  rcases j with _ | _ | j
  · exact hu
  · exact hu
  · simp at hu

theorem flatR_cons (p : Tk) (l : List Tk) : flatR (p :: l) = .int .i64 p.2 :: .int .i64 p.1 :: flatR l := rfl

theorem flatR_ins (z t : Int) (l : List Tk) (kk : Nat) (h : kk = posL (z, t) l) : flatR (l.take kk) ++ [.int .i64 t, .int .i64 z] ++ flatR (l.drop kk) = flatR (ins (z, t) l) := by
  subst h
  rw [← posL_ins, flatR_append, flatR_cons]
  simp

theorem add_end {w wr w3 : World} {b : Nat} {s t z : Int} {u : Value} {l : List Tk} {a3 : Option Addr} {n c3 : Nat} (hk : Below w.heap.size w wr) (hB : Below wr.heap.size wr w3) (hv : ∀ x, (Value.slice a3 n c3).ownBlock = some x → wr.heap.size ≤ x)
    (hb : Blk w3 b #[.int .i64 s, u] 71) (hn : n = l.length + 1) (hbw : b < w.heap.size) (h9 : l.length < 900) (hown : w3.ownsRow 0 73 2 (.slice a3 n c3) n (flatR (ins (z, t) l))) :
    ∃ r', RQ (w3.setCell ⟨b, 1, none⟩ (.slice a3 n c3)) b r' s (ins (z, t) l) ∧ Keep2 w (w3.setCell ⟨b, 1, none⟩ (.slice a3 n c3)) b none ∧ ∀ x, r' = some x → w.heap.size ≤ x := by
  have hx : ∀ x, (Value.slice a3 n c3).ownBlock = some x → w.heap.size ≤ x := fun x h => Nat.le_trans hk.size (hv x h)
  have hne : (Value.slice a3 n c3).ownBlock ≠ some b := fun e => by have := hx b e; omega
  have hl : (ins (z, t) l).length = n := by rw [ins_length, hn]
  refine ⟨_, ⟨by rw [hl]; omega, ⟨_, ?_, ?_, rfl⟩, hne⟩, ?_, hx⟩
  · have := hb.set 1 (.slice a3 n c3)
    simpa using this
  · rw [hl]
    exact ((Keep2.refl w3 b none).set (.inl rfl) _).owns hown hne (Decidable.em _)
  · exact ((Below.keep2 hk b none).trans (Below.keep2 hB b none) (fun _ h => by cases h)).set (.inl rfl) _

set_option linter.unusedSimpArgs false in
set_option maxRecDepth 10000 in
set_option maxHeartbeats 4000000 in
theorem radd_z (w : World) (b : Nat) (r : Option Nat) (s : Int) (l : List Tk) (h : RQ w b r s l) (hso : Sorted l) (h9 : l.length < 900) (t n k z : Int) (hz : relT s n k = z) (ht : 0 ≤ t) (hr : relOk s n k) : Calls Try.prog 22 #[.pointer (some ⟨b, 0, none⟩), .int .i64 t, .int .i64 n, .int .i64 k] w fun e w' => AddR w b s t z l e w' := by
  have HZ := hid hz; clear hz
  have hlt := h.lt
  obtain ⟨c0, a, c, hc, hcm, c1, hcell⟩ := h.cells
  have H := hid h; have HC := hid hcell; have C1 := hid c1; have HS := hid hso; have HR := hid hr
  have ht' : decide (t < 0) = false := by simp; omega
  clear h hcell c1 hso hr ht
  go_enter Try.func22, Try.ntmps22
  go_wp2_with fail
  refine (refRelease_ok s n k w HR.out).mono ?_; rintro e w1 ⟨rfl, rfl⟩
  rw [HZ.out]
  go_wp2_with fail
  go_loopw [12, 13] (fun u v wr => ∃ i : Nat, u = .int .i64 (min i (posL (z, t) l) : Nat) ∧ v = .int .i64 i ∧ i ≤ l.length ∧ Hid (∀ (j : Nat) (q : Tk), j < i → l[j]? = some q → q.2 ≠ t) ∧ Hid (Below w.heap.size w wr))
    (fun _ v _ => l.length - (intOf v).toNat)
  case atStart => exact ⟨0, by simp, rfl, Nat.zero_le _, fun _ _ h => absurd h (Nat.not_lt_zero _), Below.refl _ _⟩
  case round =>
    obtain ⟨i, rfl, rfl, hil, hno, hk⟩ := hrel
    have hc1 := (hk.out.cell (p := ⟨b, 1, none⟩) hlt).trans C1.out
    generalize hkk : (min i (posL (z, t) l) : Nat) = kk
    have HKK := hid hkk; clear hkk
    by_cases hin : i < l.length
    · obtain ⟨q, hq⟩ : ∃ q, l[i]? = some q := ⟨_, List.getElem?_eq_getElem hin⟩
      obtain ⟨g, rfl, hg, e0, e1⟩ := HC.out i q hq
      have hcell0 := (hk.out.cell (p := ⟨g, i * 2, none⟩) hg).trans e0
      have hcell1 := (hk.out.cell (p := ⟨g, i * 2 + 1, none⟩) hg).trans e1
      have HQ := hid hq
      clear e0 e1 hq
      by_cases hqt : q.2 = t
      · have hqt' : (q.2 == t) = true := by simpa using hqt
        have HQT := hid hqt; clear hqt
        go_wp2_with fail
        go_ret2
        exact .inl ⟨hasL_true HQ.out HQT.out, rfl, hk.out⟩
      · have hqt' : (q.2 == t) = false := by simpa using hqt
        have HQT := hid hqt; clear hqt
        have hno' := hid (show ∀ (j : Nat) (q : Tk), j < i + 1 → l[j]? = some q → q.2 ≠ t from fun j q' hj hq' => by
          by_cases hji : j < i
          · exact hno.out j q' hji hq'
          · have : j = i := by omega
            subst this
            have := HQ.out; rw [hq'] at this; cases this; exact HQT.out)
        by_cases h1 : q.1 < z
        · have h1' : decide (q.1 < z) = true := by simpa using h1
          have hY := hid (pos_step_yes HS.out HQ.out (show ¬ tle (z, t) q by unfold tle; simp only; omega))
          go_wp2_with fail
          go_roundw
          case rel => exact ⟨i + 1, by rw [hY.out]; go_num, by go_num, by omega, hno', hk⟩
          case measure => simp [intOf]; omega
        · have h1' : decide (q.1 < z) = false := by simpa using h1
          by_cases h2 : q.1 = z
          · have h2' : (q.1 == z) = true := by simpa using h2
            by_cases h3 : q.2 < t
            · have h3' : decide (q.2 < t) = true := by simpa using h3
              have hY := hid (pos_step_yes HS.out HQ.out (show ¬ tle (z, t) q by unfold tle; simp only; omega))
              go_wp2_with fail
              go_roundw
              case rel => exact ⟨i + 1, by rw [hY.out]; go_num, by go_num, by omega, hno', hk⟩
              case measure => simp [intOf]; omega
            · have h3' : decide (q.2 < t) = false := by simpa using h3
              have hY := hid (pos_step_no HQ.out (show tle (z, t) q by unfold tle; simp only; omega))
              go_wp2_with fail
              go_roundw
              case rel => exact ⟨i + 1, by rw [hY.out, HKK.out], by go_num, by omega, hno', hk⟩
              case measure => simp [intOf]; omega
          · have h2' : (q.1 == z) = false := by simpa using h2
            have hY := hid (pos_step_no HQ.out (show tle (z, t) q by unfold tle; simp only; omega))
            go_wp2_with fail
            go_roundw
            case rel => exact ⟨i + 1, by rw [hY.out, HKK.out], by go_num, by omega, hno', hk⟩
            case measure => simp [intOf]; omega
    · have hkl : posL (z, t) l ≤ l.length := posL_le _ _
      have hkp := hid (show kk = posL (z, t) l by have := HKK.out; omega)
      have hkk0 : kk ≤ l.length := by have := hkp.out; omega
      have hkc : kk ≤ c := by omega
      have hka : (0 : Int) ≤ (kk : Int) := by omega
      have hkb : (kk : Int) ≤ (l.length : Int) := by omega
      have hkd : (kk : Int) ≤ (c : Int) := by omega
      have hltw : b < wr.heap.size := Nat.lt_of_lt_of_le hlt hk.out.size
      have hc1' := hid hc1
      have SW := hid (show ∀ W : World, Below wr.heap.size wr W → W.cell? ⟨b, 1, none⟩ = some (.slice a l.length c) from fun W hW => (hW.cell (p := ⟨b, 1, none⟩) hltw).trans hc1'.out)
      have SRCW := hid (show ∀ W : World, Below wr.heap.size wr W → SrcP W a l from fun W hW => ((H.out.srcP C1.out).call (below_cells hk.out (Nat.le_refl _))).call (below_cells hW (Nat.le_refl _)))
      have BB := hid ((H.out.blk C1.out).call hk.out)
      have HF := hid (show hasL l t = false from hasL_false fun j q hq => hno.out j q (by have := (List.getElem?_eq_some_iff.1 hq).1; omega) hq)
      go_wp2_with fail
      refine region_last 23 (by kernel_rfl) rfl (by kernel_rfl) ?_
      simp only [List.take_succ_cons, List.take_zero]
      refine wpAny_of_held (S := fun w' => w'.cell? ⟨b, 1, none⟩ = some (.slice a l.length c)) _ _ _ _ ?_
      have hS0 : (fun w' : World => w'.cell? ⟨b, 1, none⟩ = some (.slice a l.length c)) wr.drew := hc1
      refine wpAnyH_take (i := 0) (by simp only [List.getElem?_toArray, List.getElem?_cons_succ, List.getElem?_cons_zero] <;> rfl) (by kernel_rfl) (by kernel_rfl) (by kernel_rfl) (fun _ _ _ h => h) (Or.inl ⟨by rfl, by intro w hSw; (try dsimp only at hSw); go_simp; try with_reducible rfl⟩) (by assumption) ?_
      try simp only [Act.put, List.setIfInBounds_toArray, List.set_cons_zero, List.set_cons_succ]
      refine wpAnyH_take (i := 2) (by simp only [List.getElem?_toArray, List.getElem?_cons_succ, List.getElem?_cons_zero] <;> rfl) (by kernel_rfl) (by kernel_rfl) (by kernel_rfl) (fun _ _ _ h => h) (Or.inl ⟨by rfl, by intro w hSw; (try dsimp only at hSw); go_simp; try with_reducible rfl⟩) (by assumption) ?_
      try simp only [Act.put, List.setIfInBounds_toArray, List.set_cons_zero, List.set_cons_succ]
      refine wpAnyH_take (i := 3) (by simp only [List.getElem?_toArray, List.getElem?_cons_succ, List.getElem?_cons_zero] <;> rfl) (by kernel_rfl) (by kernel_rfl) (by kernel_rfl) (fun _ _ _ h => h) (Or.inl ⟨by rfl, by intro w hSw; (try dsimp only at hSw); go_simp; try with_reducible rfl⟩) (by assumption) ?_
      try simp only [Act.put, List.setIfInBounds_toArray, List.set_cons_zero, List.set_cons_succ]
      refine wpAnyH_take (i := 4) (by simp only [List.getElem?_toArray, List.getElem?_cons_succ, List.getElem?_cons_zero] <;> rfl) (by kernel_rfl) (by kernel_rfl) (by kernel_rfl) (fun _ _ _ h => h) (Or.inl ⟨by rfl, by intro w hSw; (try dsimp only at hSw); go_simp; try with_reducible rfl⟩) (by assumption) ?_
      try simp only [Act.put, List.setIfInBounds_toArray, List.set_cons_zero, List.set_cons_succ]
      refine wpAnyH_take (i := 5) (by simp only [List.getElem?_toArray, List.getElem?_cons_succ, List.getElem?_cons_zero] <;> rfl) (by kernel_rfl) (by kernel_rfl) (by kernel_rfl) (fun _ _ _ h => h) (Or.inl ⟨by rfl, by intro w hSw; (try dsimp only at hSw); go_simp; try with_reducible rfl⟩) (by assumption) ?_
      try simp only [Act.put, List.setIfInBounds_toArray, List.set_cons_zero, List.set_cons_succ]
      refine wpAnyH_take (i := 6) (by simp only [List.getElem?_toArray, List.getElem?_cons_succ, List.getElem?_cons_zero] <;> rfl) (by kernel_rfl) (by kernel_rfl) (by kernel_rfl) (fun _ _ _ h => h) (Or.inl ⟨by rfl, by intro w hSw; (try dsimp only at hSw); go_simp; try with_reducible rfl⟩) (by assumption) ?_
      try simp only [Act.put, List.setIfInBounds_toArray, List.set_cons_zero, List.set_cons_succ]
      refine wpAnyH_take (i := 7) (by simp only [List.getElem?_toArray, List.getElem?_cons_succ, List.getElem?_cons_zero] <;> rfl) (by kernel_rfl) (by kernel_rfl) (by kernel_rfl) (fun _ _ _ h => h) (Or.inl ⟨by rfl, by intro w hSw; (try dsimp only at hSw); go_simp; try with_reducible rfl⟩) (by assumption) ?_
      try simp only [Act.put, List.setIfInBounds_toArray, List.set_cons_zero, List.set_cons_succ]
      refine wpAnyH_take (i := 9) (by simp only [List.getElem?_toArray, List.getElem?_cons_succ, List.getElem?_cons_zero] <;> rfl) (by kernel_rfl) (by kernel_rfl) (by kernel_rfl) (fun _ _ _ h => h) (Or.inl ⟨by rfl, by intro w hSw; (try dsimp only at hSw); go_simp; try with_reducible rfl⟩) (by assumption) ?_
      try simp only [Act.put, List.setIfInBounds_toArray, List.set_cons_zero, List.set_cons_succ]
      refine wpAnyH_take (i := 10) (by simp only [List.getElem?_toArray, List.getElem?_cons_succ, List.getElem?_cons_zero] <;> rfl) (by kernel_rfl) (by kernel_rfl) (by kernel_rfl) (fun _ _ _ h => h) (Or.inl ⟨by rfl, by intro w hSw; (try dsimp only at hSw); go_simp; try with_reducible rfl⟩) (by assumption) ?_
      try simp only [Act.put, List.setIfInBounds_toArray, List.set_cons_zero, List.set_cons_succ]
      refine wpAnyH_take (i := 11) (by simp only [List.getElem?_toArray, List.getElem?_cons_succ, List.getElem?_cons_zero] <;> rfl) (by kernel_rfl) (by kernel_rfl) (by kernel_rfl) (fun _ _ _ h => h) (Or.inl ⟨by rfl, by intro w hSw; (try dsimp only at hSw); go_simp; try with_reducible rfl⟩) (by assumption) ?_
      try simp only [Act.put, List.setIfInBounds_toArray, List.set_cons_zero, List.set_cons_succ]
      refine wpAnyH_take (i := 14) (by simp only [List.getElem?_toArray, List.getElem?_cons_succ, List.getElem?_cons_zero] <;> rfl) (by kernel_rfl) (by kernel_rfl) (by kernel_rfl) (fun _ _ _ h => h) (Or.inl ⟨by rfl, by intro w hSw; (try dsimp only at hSw); go_simp; try with_reducible rfl⟩) (by assumption) ?_
      try simp only [Act.put, List.setIfInBounds_toArray, List.set_cons_zero, List.set_cons_succ]
      refine wpAnyH_take (i := 15) (by simp only [List.getElem?_toArray, List.getElem?_cons_succ, List.getElem?_cons_zero] <;> rfl) (by kernel_rfl) (by kernel_rfl) (by kernel_rfl) (fun _ _ _ h => h) (Or.inl ⟨by rfl, by intro w hSw; (try dsimp only at hSw); go_simp; try with_reducible rfl⟩) (by assumption) ?_
      try simp only [Act.put, List.setIfInBounds_toArray, List.set_cons_zero, List.set_cons_succ]
      refine wpAnyH_take (i := 16) (by simp only [List.getElem?_toArray, List.getElem?_cons_succ, List.getElem?_cons_zero] <;> rfl) (by kernel_rfl) (by kernel_rfl) (by kernel_rfl) (fun _ _ _ h => h) (Or.inl ⟨by rfl, by intro w hSw; (try dsimp only at hSw); go_simp; try with_reducible rfl⟩) (by assumption) ?_
      try simp only [Act.put, List.setIfInBounds_toArray, List.set_cons_zero, List.set_cons_succ]
      refine wpAnyH_take (i := 17) (by simp only [List.getElem?_toArray, List.getElem?_cons_succ, List.getElem?_cons_zero] <;> rfl) (by kernel_rfl) (by kernel_rfl) (by kernel_rfl) (fun _ _ _ h => h) (Or.inl ⟨by rfl, by intro w hSw; (try dsimp only at hSw); go_simp; try with_reducible rfl⟩) (by assumption) ?_
      try simp only [Act.put, List.setIfInBounds_toArray, List.set_cons_zero, List.set_cons_succ]
      refine wpAnyH_take (i := 18) (by simp only [List.getElem?_toArray, List.getElem?_cons_succ, List.getElem?_cons_zero] <;> rfl) (by kernel_rfl) (by kernel_rfl) (by kernel_rfl) (fun _ _ _ h => h) (Or.inl ⟨by rfl, by intro w hSw; (try dsimp only at hSw); go_simp; try with_reducible rfl⟩) (by assumption) ?_
      try simp only [Act.put, List.setIfInBounds_toArray, List.set_cons_zero, List.set_cons_succ]
      refine wpAnyH_take (i := 19) (by simp only [List.getElem?_toArray, List.getElem?_cons_succ, List.getElem?_cons_zero] <;> rfl) (by kernel_rfl) (by kernel_rfl) (by kernel_rfl) (fun _ _ _ h => h) (Or.inl ⟨by rfl, by intro w hSw; (try dsimp only at hSw); go_simp; try with_reducible rfl⟩) (by assumption) ?_
      try simp only [Act.put, List.setIfInBounds_toArray, List.set_cons_zero, List.set_cons_succ]
      refine wpAnyH_ready (rs := [1, 12]) (by kernel_rfl) (by simp) ?_
      refine AllReadyH.cons (by simp only [List.getElem?_toArray, List.getElem?_cons_succ, List.getElem?_cons_zero] <;> rfl) (fun K hK => ?_) ?_
      · go_simp
        refine hK.out _ _ (SW.out _ ((Below.refl _ _).alloc (Nat.le_refl _) _).drew) (fun hS1 => ?_)
        clear hK K
        try simp only [Act.put, List.setIfInBounds_toArray, List.set_cons_zero, List.set_cons_succ]
        refine wpAnyH_ready (rs := [8, 12]) (by kernel_rfl) (by simp) ?_
        refine AllReadyH.cons (by simp only [List.getElem?_toArray, List.getElem?_cons_succ, List.getElem?_cons_zero] <;> rfl) (fun K hK => ?_) ?_
        · refine app_step (by rfl) _ _ (by rfl) (.slice (some ⟨wr.heap.size, 0, none⟩) 0 0) 0 [] (by rfl) (empty_any (Blk.drew (Blk.made wr _ _ rfl))) a kk _ (flatR (l.take kk)) (by rfl) (prefix_src (SRCW.out _ ((Below.refl _ _).alloc (Nat.le_refl _) _).drew) hkk0) (by omega) ?_
          intro v1 w1 hown1 hg1 hat1
          obtain ⟨a1, k1, rfl⟩ := owns_ex hown1
          try simp only [Nat.zero_add, List.nil_append] at hown1 hat1
          obtain ⟨hB1, hv1⟩ := app_next ((Below.refl _ _).alloc (Nat.le_refl _) _).drew (Nat.le_refl _) (by intro x hx; simp [Value.ownBlock] at hx; omega) hg1 (by simpa using hat1)
          have O1 := hid hown1; have B1 := hid hB1; have V1 := hid hv1
          clear hown1 hg1 hat1 hB1 hv1
          try simp only [Nat.zero_add]
          refine hK.out _ _ (SW.out _ B1.out) (fun hS1 => ?_)
          clear hK K
          try simp only [Act.put, List.setIfInBounds_toArray, List.set_cons_zero, List.set_cons_succ]
          refine wpAnyH_ready (rs := [12]) (by kernel_rfl) (by simp) ?_
          refine AllReadyH.cons (by simp only [List.getElem?_toArray, List.getElem?_cons_succ, List.getElem?_cons_zero] <;> rfl) (fun K hK => ?_) AllReadyH.nil
          go_simp
          refine hK.out _ _ (SW.out _ (B1.out.alloc B1.out.size _)) (fun hS4 => ?_)
          clear hK K
          try simp only [Act.put, List.setIfInBounds_toArray, List.set_cons_zero, List.set_cons_succ]
          refine wpAnyH_ready (rs := [13]) (by kernel_rfl) (by simp) ?_
          refine AllReadyH.cons (by simp only [List.getElem?_toArray, List.getElem?_cons_succ, List.getElem?_cons_zero] <;> rfl) (fun K hK => ?_) AllReadyH.nil
          refine app_step (by rfl) _ _ (by rfl) (.slice a1 kk k1) kk (flatR (l.take kk)) (by rfl) (O1.out.alloc _) (some ⟨w1.heap.size, 0, none⟩) 1 _ [.int .i64 t, .int .i64 z] (by rfl) (one_src (Blk.made w1 _ _ rfl)) (by omega) ?_
          intro v2 w2 hown2 hg2 hat2
          obtain ⟨a2, k2, rfl⟩ := owns_ex hown2
          try simp only [Nat.zero_add, List.nil_append] at hown2 hat2
          obtain ⟨hB2, hv2⟩ := app_next (B1.out.alloc B1.out.size _) (Nat.le_refl _) V1.out hg2 (by simpa using hat2)
          have O2 := hid hown2; have B2 := hid hB2; have V2 := hid hv2
          clear hown2 hg2 hat2 hB2 hv2
          try simp only [Nat.zero_add]
          refine hK.out _ _ (SW.out _ B2.out) (fun hS2 => ?_)
          clear hK K
          try simp only [Act.put, List.setIfInBounds_toArray, List.set_cons_zero, List.set_cons_succ]
          refine wpAnyH_ready (rs := [20]) (by kernel_rfl) (by simp) ?_
          refine AllReadyH.cons (by simp only [List.getElem?_toArray, List.getElem?_cons_succ, List.getElem?_cons_zero] <;> rfl) (fun K hK => ?_) AllReadyH.nil
          refine app_step (by rfl) _ _ (by rfl) (.slice a2 (kk + 1) k2) (kk + 1) (flatR (l.take kk) ++ [.int .i64 t, .int .i64 z]) (by rfl) O2.out _ (l.length - kk) _ (flatR (l.drop kk)) (by rfl) (suffix_src (c := c) (SRCW.out _ B2.out) hkk0 hc) (by omega) ?_
          intro v3 w3 hown3 hg3 hat3
          obtain ⟨a3, k3, rfl⟩ := owns_ex hown3
          try simp only [Nat.zero_add, List.nil_append] at hown3 hat3
          obtain ⟨hB3, hv3⟩ := app_next B2.out (Nat.le_refl _) V2.out hg3 (by simpa using hat3)
          have O3 := hid hown3; have B3 := hid hB3; have V3 := hid hv3
          clear hown3 hg3 hat3 hB3 hv3
          try simp only [Nat.zero_add]
          refine hK.out _ _ (SW.out _ B3.out) (fun hS3 => ?_)
          clear hK K
          try simp only [Act.put, List.setIfInBounds_toArray, List.set_cons_zero, List.set_cons_succ]
          refine wpAnyH_take (i := 21) (by simp only [List.getElem?_toArray, List.getElem?_cons_succ, List.getElem?_cons_zero] <;> rfl) (by kernel_rfl) (by kernel_rfl) (by kernel_rfl) (fun _ _ _ h => h) (Or.inl ⟨by rfl, by intro w hSw; (try dsimp only at hSw); go_simp; try with_reducible rfl⟩) (by assumption) ?_
          try simp only [Act.put, List.setIfInBounds_toArray, List.set_cons_zero, List.set_cons_succ]
          refine wpAnyH_take (i := 22) (by simp only [List.getElem?_toArray, List.getElem?_cons_succ, List.getElem?_cons_zero] <;> rfl) (by kernel_rfl) (by kernel_rfl) (by kernel_rfl) (fun _ _ _ h => h) (Or.inl ⟨by rfl, by intro w hSw; (try dsimp only at hSw); go_simp; try with_reducible rfl⟩) (by assumption) ?_
          try simp only [Act.put, List.setIfInBounds_toArray, List.set_cons_zero, List.set_cons_succ]
          refine wpAnyH_done (by kernel_rfl) ?_ _
          have BW := hid (BB.out.below B3.out hltw)
          have q2 := BW.out.cell 1; have f2 := BW.out.free 1; simp at q2
          change wpList _ _ _ _ _ _
          go_wp2_with fail
          all_goals
            go_ret2
            refine .inr ⟨HF.out, rfl, ?_⟩
            have hown := O3.out
            rw [flatR_ins z t l kk hkp.out] at hown
            exact add_end hk.out B3.out V3.out BW.out (by omega) hlt h9 hown
        · refine AllReadyH.cons (by simp only [List.getElem?_toArray, List.getElem?_cons_succ, List.getElem?_cons_zero] <;> rfl) (fun K hK => ?_) AllReadyH.nil
          go_simp
          refine hK.out _ _ (SW.out _ (((Below.refl _ _).alloc (Nat.le_refl _) _).alloc (by simp) _).drew) (fun hS4 => ?_)
          clear hK K
          try simp only [Act.put, List.setIfInBounds_toArray, List.set_cons_zero, List.set_cons_succ]
          refine wpAnyH_ready (rs := [8]) (by kernel_rfl) (by simp) ?_
          refine AllReadyH.cons (by simp only [List.getElem?_toArray, List.getElem?_cons_succ, List.getElem?_cons_zero] <;> rfl) (fun K hK => ?_) AllReadyH.nil
          have BO := hid (show Blk ((wr.alloc (.cells #[] 73)).alloc (.cells #[.int .i64 t, .int .i64 z] 73)).drew (wr.heap.size + 1) #[.int .i64 t, .int .i64 z] 73 from Blk.drew (Blk.made _ _ _ (by simp)))
          refine app_step (by rfl) _ _ (by rfl) (.slice (some ⟨wr.heap.size, 0, none⟩) 0 0) 0 [] (by rfl) (empty_any (Blk.drew (Blk.alloc (Blk.made wr _ _ rfl) _))) a kk _ (flatR (l.take kk)) (by rfl) (prefix_src (SRCW.out _ (((Below.refl _ _).alloc (Nat.le_refl _) _).alloc (by simp) _).drew) hkk0) (by omega) ?_
          intro v1 w1 hown1 hg1 hat1
          obtain ⟨a1, k1, rfl⟩ := owns_ex hown1
          try simp only [Nat.zero_add, List.nil_append] at hown1 hat1
          obtain ⟨hB1, hv1⟩ := app_next (((Below.refl _ _).alloc (Nat.le_refl _) _).alloc (by simp) _).drew (Nat.le_refl _) (by intro x hx; simp [Value.ownBlock] at hx; omega) hg1 (by simpa using hat1)
          have O1 := hid hown1; have B1 := hid hB1; have V1 := hid hv1
          have BO1 := hid (BO.out.grown hg1 (by simp [Value.ownBlock]))
          clear hown1 hg1 hat1 hB1 hv1
          try simp only [Nat.zero_add]
          refine hK.out _ _ (SW.out _ B1.out) (fun hS1 => ?_)
          clear hK K
          try simp only [Act.put, List.setIfInBounds_toArray, List.set_cons_zero, List.set_cons_succ]
          refine wpAnyH_ready (rs := [13]) (by kernel_rfl) (by simp) ?_
          refine AllReadyH.cons (by simp only [List.getElem?_toArray, List.getElem?_cons_succ, List.getElem?_cons_zero] <;> rfl) (fun K hK => ?_) AllReadyH.nil
          refine app_step (by rfl) _ _ (by rfl) (.slice a1 kk k1) kk (flatR (l.take kk)) (by rfl) O1.out (some ⟨(wr.heap.size + 1), 0, none⟩) 1 _ [.int .i64 t, .int .i64 z] (by rfl) (one_src BO1.out) (by omega) ?_
          intro v2 w2 hown2 hg2 hat2
          obtain ⟨a2, k2, rfl⟩ := owns_ex hown2
          try simp only [Nat.zero_add, List.nil_append] at hown2 hat2
          obtain ⟨hB2, hv2⟩ := app_next B1.out (Nat.le_refl _) V1.out hg2 (by simpa using hat2)
          have O2 := hid hown2; have B2 := hid hB2; have V2 := hid hv2
          clear hown2 hg2 hat2 hB2 hv2
          try simp only [Nat.zero_add]
          refine hK.out _ _ (SW.out _ B2.out) (fun hS2 => ?_)
          clear hK K
          try simp only [Act.put, List.setIfInBounds_toArray, List.set_cons_zero, List.set_cons_succ]
          refine wpAnyH_ready (rs := [20]) (by kernel_rfl) (by simp) ?_
          refine AllReadyH.cons (by simp only [List.getElem?_toArray, List.getElem?_cons_succ, List.getElem?_cons_zero] <;> rfl) (fun K hK => ?_) AllReadyH.nil
          refine app_step (by rfl) _ _ (by rfl) (.slice a2 (kk + 1) k2) (kk + 1) (flatR (l.take kk) ++ [.int .i64 t, .int .i64 z]) (by rfl) O2.out _ (l.length - kk) _ (flatR (l.drop kk)) (by rfl) (suffix_src (c := c) (SRCW.out _ B2.out) hkk0 hc) (by omega) ?_
          intro v3 w3 hown3 hg3 hat3
          obtain ⟨a3, k3, rfl⟩ := owns_ex hown3
          try simp only [Nat.zero_add, List.nil_append] at hown3 hat3
          obtain ⟨hB3, hv3⟩ := app_next B2.out (Nat.le_refl _) V2.out hg3 (by simpa using hat3)
          have O3 := hid hown3; have B3 := hid hB3; have V3 := hid hv3
          clear hown3 hg3 hat3 hB3 hv3
          try simp only [Nat.zero_add]
          refine hK.out _ _ (SW.out _ B3.out) (fun hS3 => ?_)
          clear hK K
          try simp only [Act.put, List.setIfInBounds_toArray, List.set_cons_zero, List.set_cons_succ]
          refine wpAnyH_take (i := 21) (by simp only [List.getElem?_toArray, List.getElem?_cons_succ, List.getElem?_cons_zero] <;> rfl) (by kernel_rfl) (by kernel_rfl) (by kernel_rfl) (fun _ _ _ h => h) (Or.inl ⟨by rfl, by intro w hSw; (try dsimp only at hSw); go_simp; try with_reducible rfl⟩) (by assumption) ?_
          try simp only [Act.put, List.setIfInBounds_toArray, List.set_cons_zero, List.set_cons_succ]
          refine wpAnyH_take (i := 22) (by simp only [List.getElem?_toArray, List.getElem?_cons_succ, List.getElem?_cons_zero] <;> rfl) (by kernel_rfl) (by kernel_rfl) (by kernel_rfl) (fun _ _ _ h => h) (Or.inl ⟨by rfl, by intro w hSw; (try dsimp only at hSw); go_simp; try with_reducible rfl⟩) (by assumption) ?_
          try simp only [Act.put, List.setIfInBounds_toArray, List.set_cons_zero, List.set_cons_succ]
          refine wpAnyH_done (by kernel_rfl) ?_ _
          have BW := hid (BB.out.below B3.out hltw)
          have q2 := BW.out.cell 1; have f2 := BW.out.free 1; simp at q2
          change wpList _ _ _ _ _ _
          go_wp2_with fail
          all_goals
            go_ret2
            refine .inr ⟨HF.out, rfl, ?_⟩
            have hown := O3.out
            rw [flatR_ins z t l kk hkp.out] at hown
            exact add_end hk.out B3.out V3.out BW.out (by omega) hlt h9 hown
      · refine AllReadyH.cons (by simp only [List.getElem?_toArray, List.getElem?_cons_succ, List.getElem?_cons_zero] <;> rfl) (fun K hK => ?_) AllReadyH.nil
        go_simp
        refine hK.out _ _ (SW.out _ ((Below.refl _ _).alloc (Nat.le_refl _) _).drew) (fun hS1 => ?_)
        clear hK K
        try simp only [Act.put, List.setIfInBounds_toArray, List.set_cons_zero, List.set_cons_succ]
        refine wpAnyH_ready (rs := [1]) (by kernel_rfl) (by simp) ?_
        refine AllReadyH.cons (by simp only [List.getElem?_toArray, List.getElem?_cons_succ, List.getElem?_cons_zero] <;> rfl) (fun K hK => ?_) AllReadyH.nil
        go_simp
        refine hK.out _ _ (SW.out _ (((Below.refl _ _).alloc (Nat.le_refl _) _).alloc (by simp) _).drew) (fun hS4 => ?_)
        clear hK K
        try simp only [Act.put, List.setIfInBounds_toArray, List.set_cons_zero, List.set_cons_succ]
        refine wpAnyH_ready (rs := [8]) (by kernel_rfl) (by simp) ?_
        refine AllReadyH.cons (by simp only [List.getElem?_toArray, List.getElem?_cons_succ, List.getElem?_cons_zero] <;> rfl) (fun K hK => ?_) AllReadyH.nil
        have BO := hid (show Blk ((wr.alloc (.cells #[.int .i64 t, .int .i64 z] 73)).alloc (.cells #[] 73)).drew wr.heap.size #[.int .i64 t, .int .i64 z] 73 from Blk.drew (Blk.alloc (Blk.made wr _ _ rfl) _))
        refine app_step (by rfl) _ _ (by rfl) (.slice (some ⟨(wr.heap.size + 1), 0, none⟩) 0 0) 0 [] (by rfl) (empty_any (Blk.drew (Blk.made _ _ _ (by simp)))) a kk _ (flatR (l.take kk)) (by rfl) (prefix_src (SRCW.out _ (((Below.refl _ _).alloc (Nat.le_refl _) _).alloc (by simp) _).drew) hkk0) (by omega) ?_
        intro v1 w1 hown1 hg1 hat1
        obtain ⟨a1, k1, rfl⟩ := owns_ex hown1
        try simp only [Nat.zero_add, List.nil_append] at hown1 hat1
        obtain ⟨hB1, hv1⟩ := app_next (((Below.refl _ _).alloc (Nat.le_refl _) _).alloc (by simp) _).drew (Nat.le_refl _) (by intro x hx; simp [Value.ownBlock] at hx; omega) hg1 (by simpa using hat1)
        have O1 := hid hown1; have B1 := hid hB1; have V1 := hid hv1
        have BO1 := hid (BO.out.grown hg1 (by simp [Value.ownBlock]))
        clear hown1 hg1 hat1 hB1 hv1
        try simp only [Nat.zero_add]
        refine hK.out _ _ (SW.out _ B1.out) (fun hS1 => ?_)
        clear hK K
        try simp only [Act.put, List.setIfInBounds_toArray, List.set_cons_zero, List.set_cons_succ]
        refine wpAnyH_ready (rs := [13]) (by kernel_rfl) (by simp) ?_
        refine AllReadyH.cons (by simp only [List.getElem?_toArray, List.getElem?_cons_succ, List.getElem?_cons_zero] <;> rfl) (fun K hK => ?_) AllReadyH.nil
        refine app_step (by rfl) _ _ (by rfl) (.slice a1 kk k1) kk (flatR (l.take kk)) (by rfl) O1.out (some ⟨wr.heap.size, 0, none⟩) 1 _ [.int .i64 t, .int .i64 z] (by rfl) (one_src BO1.out) (by omega) ?_
        intro v2 w2 hown2 hg2 hat2
        obtain ⟨a2, k2, rfl⟩ := owns_ex hown2
        try simp only [Nat.zero_add, List.nil_append] at hown2 hat2
        obtain ⟨hB2, hv2⟩ := app_next B1.out (Nat.le_refl _) V1.out hg2 (by simpa using hat2)
        have O2 := hid hown2; have B2 := hid hB2; have V2 := hid hv2
        clear hown2 hg2 hat2 hB2 hv2
        try simp only [Nat.zero_add]
        refine hK.out _ _ (SW.out _ B2.out) (fun hS2 => ?_)
        clear hK K
        try simp only [Act.put, List.setIfInBounds_toArray, List.set_cons_zero, List.set_cons_succ]
        refine wpAnyH_ready (rs := [20]) (by kernel_rfl) (by simp) ?_
        refine AllReadyH.cons (by simp only [List.getElem?_toArray, List.getElem?_cons_succ, List.getElem?_cons_zero] <;> rfl) (fun K hK => ?_) AllReadyH.nil
        refine app_step (by rfl) _ _ (by rfl) (.slice a2 (kk + 1) k2) (kk + 1) (flatR (l.take kk) ++ [.int .i64 t, .int .i64 z]) (by rfl) O2.out _ (l.length - kk) _ (flatR (l.drop kk)) (by rfl) (suffix_src (c := c) (SRCW.out _ B2.out) hkk0 hc) (by omega) ?_
        intro v3 w3 hown3 hg3 hat3
        obtain ⟨a3, k3, rfl⟩ := owns_ex hown3
        try simp only [Nat.zero_add, List.nil_append] at hown3 hat3
        obtain ⟨hB3, hv3⟩ := app_next B2.out (Nat.le_refl _) V2.out hg3 (by simpa using hat3)
        have O3 := hid hown3; have B3 := hid hB3; have V3 := hid hv3
        clear hown3 hg3 hat3 hB3 hv3
        try simp only [Nat.zero_add]
        refine hK.out _ _ (SW.out _ B3.out) (fun hS3 => ?_)
        clear hK K
        try simp only [Act.put, List.setIfInBounds_toArray, List.set_cons_zero, List.set_cons_succ]
        refine wpAnyH_take (i := 21) (by simp only [List.getElem?_toArray, List.getElem?_cons_succ, List.getElem?_cons_zero] <;> rfl) (by kernel_rfl) (by kernel_rfl) (by kernel_rfl) (fun _ _ _ h => h) (Or.inl ⟨by rfl, by intro w hSw; (try dsimp only at hSw); go_simp; try with_reducible rfl⟩) (by assumption) ?_
        try simp only [Act.put, List.setIfInBounds_toArray, List.set_cons_zero, List.set_cons_succ]
        refine wpAnyH_take (i := 22) (by simp only [List.getElem?_toArray, List.getElem?_cons_succ, List.getElem?_cons_zero] <;> rfl) (by kernel_rfl) (by kernel_rfl) (by kernel_rfl) (fun _ _ _ h => h) (Or.inl ⟨by rfl, by intro w hSw; (try dsimp only at hSw); go_simp; try with_reducible rfl⟩) (by assumption) ?_
        try simp only [Act.put, List.setIfInBounds_toArray, List.set_cons_zero, List.set_cons_succ]
        refine wpAnyH_done (by kernel_rfl) ?_ _
        have BW := hid (BB.out.below B3.out hltw)
        have q2 := BW.out.cell 1; have f2 := BW.out.free 1; simp at q2
        change wpList _ _ _ _ _ _
        go_wp2_with fail
        all_goals
          go_ret2
          refine .inr ⟨HF.out, rfl, ?_⟩
          have hown := O3.out
          rw [flatR_ins z t l kk hkp.out] at hown
          exact add_end hk.out B3.out V3.out BW.out (by omega) hlt h9 hown

theorem radd_any (w : World) (b : Nat) (r : Option Nat) (s : Int) (l : List Tk) (h : RQ w b r s l) (hso : Sorted l) (h9 : l.length < 900) (t n k : Int) (ht : 0 ≤ t) (hr : relOk s n k) : Calls Try.prog 22 #[.pointer (some ⟨b, 0, none⟩), .int .i64 t, .int .i64 n, .int .i64 k] w fun e w' => AddR w b s t (relT s n k) l e w' := radd_z w b r s l h hso h9 t n k _ rfl ht hr
end Go.Proofs.Ytjpkglgbcflbnaa
