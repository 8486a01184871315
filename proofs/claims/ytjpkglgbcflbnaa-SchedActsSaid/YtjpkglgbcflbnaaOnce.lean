/- The walk of the law SchedOnce, out of the contracts of the queue's methods; that of Waiting comes in as a hypothesis. -/
import Derived.Test.YtjpkglgbcflbnaaBounds
import Derived.Test.YtjpkglgbcflbnaaOnceMath
import Derived.Deep.OwnRows
import Derived.BigQuiet
namespace Go.Proofs.Ytjpkglgbcflbnaa
open Go.RowKit

/-- The elements of a slice of integers that came in. -/
def Reads (w : World) (a : Option Addr) (len : Nat) (l : Nat → Int) : Prop := ∀ i, i < len → ∃ g o, a = some ⟨g, o, none⟩ ∧ g < w.heap.size ∧ w.cell? ⟨g, o + i, none⟩ = some (.int .i64 (l i))

theorem Reads.later {w w' : World} {a : Option Addr} {len : Nat} {l : Nat → Int} (h : Reads w a len l) (hb : Below w.heap.size w w') : Reads w' a len l := fun i hi => by
  obtain ⟨g, o, h1, h2, h3⟩ := h i hi
  exact ⟨g, o, h1, Nat.lt_of_lt_of_le h2 hb.size, (hb.cell (p := ⟨g, o + i, none⟩) h2).trans h3⟩

theorem reads_of_owns {w : World} {base n c : Nat} {a : Option Addr} {A : Nat → Int} (h : w.ownsRow base 3 1 (.slice a n c) n ((List.range n).map fun j => .int .i64 (A j))) : Reads w a n A := by
  intro i hi
  rcases h.2 with ⟨_, h0⟩ | ⟨g, cap, cur, e, hb, hg, h1, h2, h3, h4⟩
  · omega
  · simp at e
    obtain ⟨rfl, rfl⟩ := e
    refine ⟨g, 0, rfl, (Array.getElem?_eq_some_iff.1 hg).1, ?_⟩
    rw [Nat.zero_add, Blk.cell (w := w) hg]
    have := congrArg (fun x => x[i]?) h4
    simp only [List.getElem?_take, Nat.mul_one, hi, if_true, Array.getElem?_toList, List.getElem?_map] at this
    rw [this]; simp [hi]

theorem setCell_grown (w : World) (a : Addr) (v : Value) : w.grownBy (w.setCell a v) (some a.block) :=
  ⟨rfl, rfl, rfl, by simp [World.setCell], fun k _ hk => Below.heap_setCell _ _ _ _ (fun e => hk (by rw [e]))⟩

theorem IsInts.set {w : World} {v : Value} {l : List Int} (h : IsInts w v l) (p : Addr) (u : Value) (hne : ∀ x, v.ownBlock = some x → x ≠ p.block) : IsInts (w.setCell p u) v l := by
  obtain ⟨a, c, rfl, hc⟩ := h.ex
  refine ⟨h.sm, a, c, rfl, fun i hi => ?_⟩
  obtain ⟨g, o, rfl, h2, h3⟩ := hc i hi
  refine ⟨g, o, rfl, by simpa [World.setCell] using h2, ?_⟩
  rw [World.cell?_of_block (Below.heap_setCell _ _ _ _ (hne g rfl))]; exact h3

/-- A row of bools. -/
def boolsA (n : Nat) (f : Nat → Bool) : Array Value := ((List.range n).map fun t => Value.bool (f t)).toArray

theorem boolsA_get (n : Nat) (f : Nat → Bool) (t : Nat) (h : t < n) : (boolsA n f)[t]? = some (.bool (f t)) := by simp [boolsA, h]

theorem boolsA_set (n : Nat) (f : Nat → Bool) (t : Nat) : (boolsA n f).setIfInBounds t (.bool true) = boolsA n (fun x => x == t || f x) := by
  apply Array.ext_getElem?
  intro i
  rw [Array.getElem?_setIfInBounds]
  unfold boolsA
  by_cases hi : i < n
  · by_cases e : t = i
    · subst e; simp [hi]
    · have : (i == t) = false := by simp; omega
      simp [hi, e, this]
  · by_cases e : t = i
    · subst e; simp [hi]
    · simp [hi, e]

theorem boolsA_congr {n : Nat} {f g : Nat → Bool} (h : ∀ t, t < n → f t = g t) : boolsA n f = boolsA n g := by
  unfold boolsA
  congr 1
  apply List.map_congr_left
  intro t ht
  rw [h t (List.mem_range.1 ht)]

theorem made_bools (n : Nat) : madeCells #[.bool false] n = boolsA n (fun _ => false) := by
  apply Array.ext_getElem?
  intro i
  unfold madeCells boolsA
  by_cases hi : i < n <;> simp [hi, Nat.mod_one]

/-- The release time of ticket i. -/
def aT (s : Int) (t u : Nat → Int) (lu : Nat) (i : Nat) : Int := relT s (t i % 200) (if i < lu then u i % 100 else 0)

theorem aT_ok {s : Int} (hs : 1 ≤ s ∧ s ≤ 50) (x y : Int) : relOk s (x % 200) (y % 100) ∧ relOk s (x % 200) 0 := by
  have := emod_bd x 200 (by omega)
  have := emod_bd y 100 (by omega)
  unfold relOk; omega

theorem aT_bd {s : Int} (hs : 1 ≤ s ∧ s ≤ 50) (t u : Nat → Int) (lu i : Nat) : 0 ≤ aT s t u lu i ∧ aT s t u lu i ≤ 1100512627775 := by
  unfold aT
  have h := aT_ok hs (t i) (u i)
  split
  · have := relT_bd h.1; exact ⟨this.2.2.1, this.2.2.2⟩
  · have := relT_bd h.2; exact ⟨this.2.2.1, this.2.2.2⟩

theorem once_app {w w3 w5 : World} {b g5 : Nat} {r3 row : Option Nat} {s : Int} {l : List Tk} {o : Obj} (hq : Qu w3 b r3 s l) (hf : Fresh w w3 b r3) (hb : row ≠ some b) (hr : row = none ∨ row ≠ r3) (hrow : ∀ x, row = some x → w.heap.size ≤ x)
    (hg : (w3.alloc o).grownBy w5 row) (hat : row = some g5 ∨ g5 = (w3.alloc o).heap.size) : Qu w5 b r3 s l ∧ Fresh w w5 b r3 ∧ ((some g5 : Option Nat) ≠ some b ∧ ((some g5 : Option Nat) = none ∨ some g5 ≠ r3)) := by
  have hlt := hq.lt
  have hrl := hq.rlt
  refine ⟨(hq.call ((Below.refl _ _).alloc (Nat.le_refl _) o)).grown hg hb ?_, ⟨?_, hf.b, hf.r⟩, ?_, .inr ?_⟩
  · rcases hr with rfl | hr
    · rcases r3 with _ | x
      · exact .inl rfl
      · exact .inr (by simp)
    · exact .inr (fun e => hr e.symm)
  · exact (hf.below.alloc hf.below.size o).grown hg (by have := hf.below.size; simp; omega) hrow
  · intro e
    rcases hat with h | h
    · exact hb (h.trans e)
    · simp at e h; omega
  · intro e
    rcases hat with h | h
    · rcases hr with h2 | h2
      · rw [h] at h2; cases h2
      · exact h2 (h.trans e)
    · have := hrl g5 e.symm; simp at h; omega

/-- What a round of the innermost loop does: ticket j is marked. -/
theorem once_done {w wr : World} {nq b gd i m j : Nat} {r : Option Nat} {s lv : Int} {A : Nat → Int} {P l : List Tk} {v4 v8 : Value} (hPj : P[m]? = some (A j, (j : Int)))
    (hD : Blk wr gd (boolsA i (fun t => decide (A t ≤ lv) || (P.take m).any fun q => q.2 == (t : Int))) 4)
    (hO : wr.ownsRow w.heap.size 3 1 v4 i ((List.range i).map fun j => .int .i64 (A j))) (hQ : Qu wr b r s l) (hF : Fresh w wr b r) (hI : IsInts wr v8 (P.map (·.2)))
    (n1 : gd ≠ b) (n2 : r ≠ some gd) (n3 : v4.ownBlock ≠ some gd) (n4 : w.heap.size ≤ gd) (n5 : ∀ x, v8.ownBlock = some x → x ≠ gd) :
    Blk ((wr.drewN nq).setCell ⟨gd, j, none⟩ (.bool true)) gd (boolsA i (fun t => decide (A t ≤ lv) || (P.take (m + 1)).any fun q => q.2 == (t : Int))) 4 ∧
    ((wr.drewN nq).setCell ⟨gd, j, none⟩ (.bool true)).ownsRow w.heap.size 3 1 v4 i ((List.range i).map fun j => .int .i64 (A j)) ∧ Qu ((wr.drewN nq).setCell ⟨gd, j, none⟩ (.bool true)) b r s l ∧
    Fresh w ((wr.drewN nq).setCell ⟨gd, j, none⟩ (.bool true)) b r ∧ IsInts ((wr.drewN nq).setCell ⟨gd, j, none⟩ (.bool true)) v8 (P.map (·.2)) := by
  have hbd : Below wr.heap.size wr (wr.drewN nq) := ⟨rfl, rfl, rfl, Nat.le_refl _, fun _ _ => rfl⟩
  have hgs := setCell_grown (wr.drewN nq) ⟨gd, j, none⟩ (.bool true)
  refine ⟨?_, (owns_call hO hbd).kept hgs (.inr (fun e => n3 e)), (hQ.call hbd).grown hgs (fun e => n1 (by simpa using e)) (.inr (fun e => n2 e)), ⟨(hF.below.trans (hbd.mono hF.below.size)).setCell n4 _, hF.b, hF.r⟩, (hI.call hbd).set ⟨gd, j, none⟩ (.bool true) n5⟩
  have h1 := (hD.call hbd).set j (.bool true)
  rw [boolsA_set] at h1
  rw [boolsA_congr (g := fun x => x == j || (decide (A x ≤ lv) || (P.take m).any fun q => q.2 == (x : Int)))]
  · exact h1
  · intro t _
    rw [any_take_succ hPj]
    have : (((j : Int)) == (t : Int)) = (t == j) := by rw [Bool.eq_iff_iff]; simp; omega
    simp only
    rw [this]
    cases (t == j) <;> cases decide (A t ≤ lv) <;> simp

set_option maxRecDepth 100000 in
set_option maxHeartbeats 8000000 in
theorem once_any (HW : WaitSaid) (x : Int) (a1 : Option Addr) (n1 c1 : Nat) (t : Nat → Int) (a2 : Option Addr) (n2 c2 : Nat) (u : Nat → Int) (a3 : Option Addr) (n3 c3 : Nat) (v : Nat → Int) (w : World)
    (h1 : Reads w a1 n1 t) (h2 : Reads w a2 n2 u) (h3 : Reads w a3 n3 v) :
    Calls Try.prog 7 #[.int .i64 x, .slice a1 n1 c1, .slice a2 n2 c2, .slice a3 n3 c3] w fun e w' => e = .returned (.bool true) ∧ Below w.heap.size w w' := by
  obtain ⟨i0, hi, hz0, hz1, hz2⟩ := info_parts Try.info3
  have hHW := hid HW; have R1 := hid h1; have R2 := hid h2; have R3 := hid h3; clear HW h1 h2 h3
  by_cases hbig : 40 < n1 ∨ 60 < n3
  · have HB := hid hbig; clear hbig
    go_enter Try.func7, Try.ntmps7
    go_wp2_with fail
    refine (known_any hHW.out w).mono ?_; rintro e w1 ⟨rfl, hb1⟩
    have B1 := hid hb1; clear hb1
    by_cases k1 : 40 < n1
    · go_wp2_with fail
      go_ret
      exact ⟨rfl, B1.out⟩
    · have k3 : 60 < n3 := HB.out.resolve_left k1
      go_wp2_with fail
      go_ret
      exact ⟨rfl, B1.out⟩
  · have k1 : n1 ≤ 40 := by omega
    have k3 : n3 ≤ 60 := by omega
    clear hbig
    have e0 := emod_bd x 50 (by omega)
    have p0 := hid (pick_any x 50 (by omega) (by omega))
    generalize x % 50 = x' at *
    have hs : 1 ≤ 1 + x' ∧ 1 + x' ≤ 50 := by omega
    have E0 := hid e0; clear e0
    go_enter Try.func7, Try.ntmps7
    go_wp2_with fail
    refine (known_any hHW.out w).mono ?_; rintro e w1 ⟨rfl, hb1⟩
    have B1 := hid hb1; clear hb1
    go_wp2_with fail
    refine (p0.out w1).mono ?_; rintro e w2 ⟨rfl, rfl⟩
    have ex : 1 + x' = 1 + x' := rfl
    go_wp2_with fail
    refine (new_ok w1 (1 + x') (by omega)).mono ?_; rintro e w2 ⟨b, rfl, hbb, hq2, hb2⟩
    have F2 := hid (show Fresh w w2 b none from ⟨B1.out.trans (hb2.mono B1.out.size), Nat.le_trans B1.out.size hbb, fun x hx => by cases hx⟩)
    have Q2 := hid hq2; clear hb2 hq2 hbb B1 ex
    go_wp2_with fail
    have hsum : ∀ i, 0 ≤ aT (1 + x') t u n2 i ∧ aT (1 + x') t u n2 i ≤ 1100512627775 := aT_bd hs t u n2
    have HS := hid hsum; clear hsum
    go_loopw [12, 13] (fun va vi wr => ∃ (i : Nat) (r : Option Nat) (l : List Tk), vi = .int .i64 i ∧ i ≤ n1 ∧ Hid (wr.ownsRow w.heap.size 3 1 va i ((List.range i).map fun j => .int .i64 (aT (1 + x') t u n2 j))) ∧
        Hid (Qu wr b r (1 + x') l) ∧ Hid (Tks (aT (1 + x') t u n2) i l) ∧ Hid (Fresh w wr b r) ∧ Hid (va.ownBlock ≠ some b ∧ (va.ownBlock = none ∨ va.ownBlock ≠ r)))
      (fun _ vi _ => n1 - (intOf vi).toNat)
    case atStart => exact ⟨0, none, [], rfl, Nat.zero_le _, World.ownsRow_nil _ _ _ _, Q2, Tks.zero _, F2, by simp [Value.ownBlock], .inl rfl⟩
    case round =>
      obtain ⟨i, r, l, rfl, hi1, ho, hq, ht, hf, hne⟩ := hrel
      obtain ⟨a4, c4, rfl⟩ := owns_ex ho.out
      by_cases hin : i < n1
      · obtain ⟨g1, o1, rfl, g1l, d1⟩ := (R1.out.later hf.out.below) i hin
        have pt := hid (pick_any (t i) 200 (by omega) (by omega))
        have hll : Hid (l.length = i) := ht.out.length
        by_cases hi2 : i < n2
        · obtain ⟨g2, o2, rfl, g2l, d2⟩ := (R2.out.later hf.out.below) i hi2
          have pu := hid (pick_any (u i) 100 (by omega) (by omega))
          have hA : Hid (aT (1 + x') t u n2 i = relT (1 + x') (t i % 200) (u i % 100)) := by rw [Hid]; unfold aT; rw [if_pos hi2]
          have hR := hid (aT_ok hs (t i) (u i)).1
          generalize hy : t i % 200 = y at *
          generalize hz : u i % 100 = z at *
          clear hy hz
          go_wp2_with fail
          refine (pu.out wr).mono ?_; rintro e w3 ⟨rfl, rfl⟩
          go_wp2_with fail
          refine (pt.out wr).mono ?_; rintro e w3 ⟨rfl, rfl⟩
          go_wp2_with fail
          refine (add_new wr b r (1 + x') l hq.out (by have := hll.out; omega) i y z (by omega) hR.out ht.out.hasL).mono ?_; rintro e w3 ⟨rfl, r3, hq3, hk3, hr3⟩
          rw [← hA.out]
          rw [← hA.out] at hq3
          have HQ3 := hid hq3; have HT3 := hid ht.out.ins; have HF3 := hid (hf.out.step hk3 hr3)
          have HO3 := hid (hk3.owns ho.out hne.out.1 hne.out.2)
          have HLT := hid (owns_lt ho.out)
          have HN3 := hid (show (Value.slice a4 i c4).ownBlock = none ∨ (Value.slice a4 i c4).ownBlock ≠ r3 from by
            rcases hv : (Value.slice a4 i c4).ownBlock with _ | xx
            · exact .inl rfl
            · right; intro e
              rcases hr3 xx e.symm with k | k
              · rcases hne.out.2 with k2 | k2
                · rw [hv] at k2; cases k2
                · exact k2 (hv.trans k.symm)
              · have := HLT.out xx hv; omega)
          clear hq3 hk3 hr3 d1 d2 g1l g2l hA hR
          go_wp2_with (at_builtin; refine wpList_append_lies _ rfl _ _ 38 rfl w.heap.size 3 i0 (.int .i64 0) 1 8 Try.underlying38 hi hz0 hz1 hz2 rfl (by decide) _ i _ rfl (HO3.out.alloc _) ⟨w3.heap.size, 0, none⟩ 1 1 [.int .i64 (aT (1 + x') t u n2 i)] rfl rfl (cell_one_new _ _ _) (by simp [Value.oneCell']) (by omega) (by unfold maxLen; omega) (by omega) (by have := HF3.out.below.size; simp; omega) _ rfl ?_; intro g5 c5 w5 hown5 hgrow5 hat5 hlt5)
          go_roundw
          case rel =>
            obtain ⟨m1, m2, m3⟩ := once_app HQ3.out HF3.out hne.out.1 HN3.out (fun x hx => (ho.out.lt x hx).1) hgrow5 hat5
            exact ⟨i + 1, r3, _, by go_num, by omega, by rw [Hid, List.range_succ, List.map_append]; exact hown5, m1, HT3.out, m2, m3⟩
          case measure => simp [intOf]; omega
        · have hA : Hid (aT (1 + x') t u n2 i = relT (1 + x') (t i % 200) 0) := by rw [Hid]; unfold aT; rw [if_neg hi2]
          have hR := hid (aT_ok hs (t i) 0).2
          generalize hy : t i % 200 = y at *
          clear hy
          go_wp2_with fail
          refine (pt.out wr).mono ?_; rintro e w3 ⟨rfl, rfl⟩
          go_wp2_with fail
          refine (add_new wr b r (1 + x') l hq.out (by have := hll.out; omega) i y 0 (by omega) hR.out ht.out.hasL).mono ?_; rintro e w3 ⟨rfl, r3, hq3, hk3, hr3⟩
          rw [← hA.out]
          rw [← hA.out] at hq3
          have HQ3 := hid hq3; have HT3 := hid ht.out.ins; have HF3 := hid (hf.out.step hk3 hr3)
          have HO3 := hid (hk3.owns ho.out hne.out.1 hne.out.2)
          have HLT := hid (owns_lt ho.out)
          have HN3 := hid (show (Value.slice a4 i c4).ownBlock = none ∨ (Value.slice a4 i c4).ownBlock ≠ r3 from by
            rcases hv : (Value.slice a4 i c4).ownBlock with _ | xx
            · exact .inl rfl
            · right; intro e
              rcases hr3 xx e.symm with k | k
              · rcases hne.out.2 with k2 | k2
                · rw [hv] at k2; cases k2
                · exact k2 (hv.trans k.symm)
              · have := HLT.out xx hv; omega)
          clear hq3 hk3 hr3 d1 g1l hA hR
          go_wp2_with (at_builtin; refine wpList_append_lies _ rfl _ _ 38 rfl w.heap.size 3 i0 (.int .i64 0) 1 8 Try.underlying38 hi hz0 hz1 hz2 rfl (by decide) _ i _ rfl (HO3.out.alloc _) ⟨w3.heap.size, 0, none⟩ 1 1 [.int .i64 (aT (1 + x') t u n2 i)] rfl rfl (cell_one_new _ _ _) (by simp [Value.oneCell']) (by omega) (by unfold maxLen; omega) (by omega) (by have := HF3.out.below.size; simp; omega) _ rfl ?_; intro g5 c5 w5 hown5 hgrow5 hat5 hlt5)
          go_roundw
          case rel =>
            obtain ⟨m1, m2, m3⟩ := once_app HQ3.out HF3.out hne.out.1 HN3.out (fun x hx => (ho.out.lt x hx).1) hgrow5 hat5
            exact ⟨i + 1, r3, _, by go_num, by omega, by rw [Hid, List.range_succ, List.map_append]; exact hown5, m1, HT3.out, m2, m3⟩
          case measure => simp [intOf]; omega
      · obtain rfl : i = n1 := by omega
        have hmk := Go.run_make_row' (P := Try.prog) 48 4 (.bool false) 1 Try.underlying48 (by kernel_rfl) rfl .i64 .i64 i (by omega) (by omega)
        rw [made_bools] at hmk
        generalize aT (1 + x') t u n2 = A at *
        have hL0 : Hid (notDue (-1) l = l) := by
          rw [Hid]
          cases l with
          | nil => rfl
          | cons q l =>
            obtain ⟨j, _, hj⟩ := (ht.out.mem q).1 List.mem_cons_self
            exact notDue_cons_no (by have := (HS.out j).1; rw [hj]; simp; omega)
        have HLl := hid ht.out.length
        have hrow4 := hid (fun x (hx : (Value.slice a4 i c4).ownBlock = some x) => (ho.out.lt x hx))
        have hblt := hid hq.out.lt; have hrlt := hid hq.out.rlt
        go_wp2_with fail
        obtain ⟨gd, hgd⟩ : ∃ gd, gd = wr.heap.size := ⟨_, rfl⟩
        have D0 := hid (Blk.made wr (boolsA i (fun _ => false)) 4 hgd)
        have Q6 := hid (hq.out.call ((Below.refl _ _).alloc (Nat.le_refl _) (.cells (boolsA i (fun _ => false)) 4)))
        have O6 := hid (ho.out.alloc (.cells (boolsA i (fun _ => false)) 4))
        have F6 := hid (hf.out.call ((Below.refl _ _).alloc (Nat.le_refl _) (.cells (boolsA i (fun _ => false)) 4)))
        have N1 := hid (show gd ≠ b from by have := hblt.out; omega)
        have N2 := hid (show r ≠ some gd from fun e => by have := hrlt.out gd e; omega)
        have N3 := hid (show (Value.slice a4 i c4).ownBlock ≠ some gd from fun e => by have := hrow4.out gd e; omega)
        have N4 := hid (show w.heap.size ≤ gd from by have := hf.out.below.size; omega)
        rw [← hgd]
        have HGD := hid hgd
        generalize wr.alloc (.cells (boolsA i (fun _ => false)) 4) = w6 at *
        clear hmk hgd
        go_loopw [18, 19] (fun vn vi wq => ∃ (k : Nat) (nw lv : Int), vi = .int .i64 k ∧ k ≤ n3 ∧ vn = .int .i64 nw ∧ 0 ≤ nw ∧ nw ≤ 40 * k ∧ lv ≤ nw ∧ Hid (Blk wq gd (boolsA i (fun t => decide (A t ≤ lv))) 4) ∧
            Hid (wq.ownsRow w.heap.size 3 1 (.slice a4 i c4) i ((List.range i).map fun j => .int .i64 (A j))) ∧ Hid (Qu wq b r (1 + x') (notDue lv l)) ∧ Hid (Fresh w wq b r))
          (fun _ vi _ => n3 - (intOf vi).toNat)
        case atStart =>
          refine ⟨0, 0, -1, rfl, Nat.zero_le _, rfl, by omega, by omega, by omega, ?_, O6, ?_, F6⟩
          · rw [Hid, boolsA_congr (g := fun _ => false) (fun t _ => by have := (HS.out t).1; simp; omega)]; exact D0
          · rw [Hid, hL0.out]; exact Q6
        case round =>
          obtain ⟨k, nw, lv, rfl, hk3, rfl, hnw0, hnw1, hlv, hD, hO, hQ, hF⟩ := hrel
          by_cases hkn : k < n3
          · obtain ⟨g3, o3, rfl, g3l, d3⟩ := (R3.out.later hF.out.below) k hkn
            have pv := hid (pick_any (v k) 40 (by omega) (by omega))
            have ev := emod_bd (v k) 40 (by omega)
            generalize v k % 40 = dv at *
            go_wp2_with fail
            refine (pv.out wr).mono ?_; rintro e w7 ⟨rfl, rfl⟩
            go_wp2_with fail
            have hP := hid (Tks.due ht.out lv (nw + dv))
            refine (due_any wr b r (1 + x') (notDue lv l) (nw + dv) hQ.out).mono ?_; rintro e w8 ⟨v8, rfl, ho8, hq8, hk8⟩
            rw [notDue_notDue (show lv ≤ nw + dv by omega)] at hq8
            have hPl : (dueL (nw + dv) (notDue lv l)).length ≤ i := hP.out.len
            have I8 := hid (due_ints ho8 (by omega))
            obtain ⟨a8, c8, rfl⟩ := owns_ex ho8
            have hr8 := hid (show ∀ x, (Value.slice a8 (dueL (nw + dv) (notDue lv l)).length c8).ownBlock = some x → wr.heap.size ≤ x from fun x hx => (ho8.lt x hx).1)
            have Q8 := hid hq8
            have F8 := hid (hF.out.step hk8 (fun x hx => .inl hx))
            have D8 := hid (hk8.blk hD.out N1.out (fun e => N2.out e.symm))
            have O8 := hid (hk8.owns hO.out hne.out.1 hne.out.2)
            have hgdr := hid hD.out.lt
            generalize hPP : dueL (nw + dv) (notDue lv l) = P at *
            clear ho8 hq8 hk8 hPP d3 hQ hF hD hO
            go_wp2_with fail
            go_loopw [21] (fun vk wq => ∃ m : Nat, vk = .int .i64 m ∧ m ≤ P.length ∧ Hid (Blk wq gd (boolsA i (fun t => decide (A t ≤ lv) || (P.take m).any fun q => q.2 == (t : Int))) 4) ∧
                Hid (wq.ownsRow w.heap.size 3 1 (.slice a4 i c4) i ((List.range i).map fun j => .int .i64 (A j))) ∧ Hid (Qu wq b r (1 + x') (notDue (nw + dv) l)) ∧ Hid (Fresh w wq b r) ∧ Hid (IsInts wq (.slice a8 P.length c8) (P.map (·.2))))
              (fun vk _ => P.length - (intOf vk).toNat)
            case atStart => exact ⟨0, rfl, Nat.zero_le _, by simpa [Hid] using D8.out, O8, Q8, F8, I8⟩
            case round =>
              obtain ⟨m, rfl, hmP, hD, hO, hQ, hF, hI⟩ := hrel
              by_cases hm : m < P.length
              · obtain ⟨j, hj, hPj, hlo, hhi⟩ := hP.out.mem m hm
                obtain ⟨g8, o8, rfl, g8l, d8⟩ := (IsInts.at hI.out).2 m (by simpa using hm)
                rw [show (P.map (·.2))[m]?.getD 0 = (j : Int) from by rw [List.getElem?_map, hPj]; rfl] at d8
                obtain ⟨g4, o4, rfl, g4l, d4⟩ := reads_of_owns hO.out j hj
                have dd := hD.out.cell j
                rw [boolsA_get _ _ _ hj, not_in_take hP.out.nodup hPj, show decide (A j ≤ lv) = false from by simp; omega] at dd
                simp only [Bool.or_false] at dd
                have fd := hD.out.free j
                have HPj := hid hPj; have HJ := hid (show (0 : Int) ≤ j ∧ (j : Int) < i from by omega)
                clear hPj hlo
                by_cases hm0 : m = 0
                · obtain rfl := hm0
                  simp only [Nat.add_zero] at d8
                  have q1 : decide ((j : Int) < 0) = false := by simp
                  have q2 : decide ((i : Int) ≤ (j : Int)) = false := by simp; omega
                  have q3 : decide (i ≤ j) = false := by simp; omega
                  have q4 : decide (nw + dv < A j) = false := by simp; omega
                  go_wp2_with fail
                  simp only [List.append]
                  go_big_quiet (fail)
                  clear q1 q2 q3 q4
                  go_wp2_with fail
                  go_roundw
                  case rel =>
                    obtain ⟨m1, m2, m3, m4, m5⟩ := once_done (nq := nq) HPj.out hD.out hO.out hQ.out hF.out hI.out N1.out N2.out N3.out N4.out (fun x hx => by have := hr8.out x hx; have := hgdr.out; omega)
                    exact ⟨0 + 1, by go_num, by omega, m1, m2, m3, m4, m5⟩
                  case measure => simp [intOf]; omega
                · obtain ⟨j', hj', hPj', _, _⟩ := hP.out.mem (m - 1) (by omega)
                  obtain ⟨g8', o8', e8, _, d8'⟩ := (IsInts.at hI.out).2 (m - 1) (by simp; omega)
                  rw [show (P.map (·.2))[m - 1]?.getD 0 = (j' : Int) from by rw [List.getElem?_map, hPj']; rfl] at d8'
                  obtain ⟨g4', o4', e4, _, d4'⟩ := reads_of_owns hO.out j' hj'
                  simp only [Option.some.injEq, Addr.mk.injEq] at e8 e4
                  obtain ⟨rfl, rfl, _⟩ := e8
                  obtain ⟨rfl, rfl, _⟩ := e4
                  have hlt := hP.out.lt (m - 1) j' j (by omega) hPj' (by rw [show m - 1 + 1 = m from by omega]; exact HPj.out)
                  have HJ' := hid (show (0 : Int) ≤ j' ∧ (j' : Int) < i from by omega)
                  clear hPj'
                  have q1 : decide ((j : Int) < 0) = false := by simp
                  have q2 : decide ((i : Int) ≤ (j : Int)) = false := by simp; omega
                  have q3 : decide (i ≤ j) = false := by simp; omega
                  have q4 : decide (nw + dv < A j) = false := by simp; omega
                  have q5 : decide (0 < m) = true := by simp; omega
                  have q6 : decide (A j < A j') = false := by simp; omega
                  rcases hlt with hlt | ⟨hlt, hlt2⟩
                  · have q7 : (A j' == A j) = false := by simp; omega
                    go_wp2_with fail
                    simp only [List.append]
                    go_big_quiet (fail)
                    clear q1 q2 q3 q4 q5 q6 q7
                    go_wp2_with fail
                    go_roundw
                    case rel =>
                      obtain ⟨m1, m2, m3, m4, m5⟩ := once_done (nq := nq) HPj.out hD.out hO.out hQ.out hF.out hI.out N1.out N2.out N3.out N4.out (fun x hx => by have := hr8.out x hx; have := hgdr.out; omega)
                      exact ⟨m + 1, by go_num, by omega, m1, m2, m3, m4, m5⟩
                    case measure => simp [intOf]; omega
                  · have q7 : (A j' == A j) = true := by simp; omega
                    have q8 : decide (j ≤ j') = false := by simp; omega
                    clear hlt
                    go_wp2_with fail
                    simp only [List.append]
                    go_big_quiet (fail)
                    clear q1 q2 q3 q4 q5 q6 q7 q8
                    go_wp2_with fail
                    go_roundw
                    case rel =>
                      obtain ⟨m1, m2, m3, m4, m5⟩ := once_done (nq := nq) HPj.out hD.out hO.out hQ.out hF.out hI.out N1.out N2.out N3.out N4.out (fun x hx => by have := hr8.out x hx; have := hgdr.out; omega)
                      exact ⟨m + 1, by go_num, by omega, m1, m2, m3, m4, m5⟩
                    case measure => simp [intOf]; omega
              · have hmm : Hid (P.take m = P) := List.take_of_length_le (by omega)
                have hD2 : Hid (Blk wr gd (boolsA i (fun t => decide (A t ≤ nw + dv))) 4) := by
                  have := hD.out
                  rw [hmm.out, boolsA_congr (hP.out.done (show lv ≤ nw + dv by omega))] at this
                  exact this
                clear hD hI
                go_wp2_with fail
                go_loopw [23] (fun vk wq => ∃ m : Nat, vk = .int .i64 m ∧ m ≤ i ∧ Hid (Blk wq gd (boolsA i (fun t => decide (A t ≤ nw + dv))) 4) ∧
                    Hid (wq.ownsRow w.heap.size 3 1 (.slice a4 i c4) i ((List.range i).map fun j => .int .i64 (A j))) ∧ Hid (Qu wq b r (1 + x') (notDue (nw + dv) l)) ∧ Hid (Fresh w wq b r))
                  (fun vk _ => i - (intOf vk).toNat)
                case atStart => exact ⟨0, rfl, Nat.zero_le _, hD2, hO, hQ, hF⟩
                case round =>
                  obtain ⟨y, rfl, hyi, hD3, hO3, hQ3, hF3⟩ := hrel
                  by_cases hy : y < i
                  · obtain ⟨g4, o4, rfl, g4l, d4⟩ := reads_of_owns hO3.out y hy
                    have dd := hD3.out.cell y
                    rw [boolsA_get _ _ _ hy] at dd
                    by_cases hle : A y ≤ nw + dv
                    · have hl2 : decide (A y ≤ nw + dv) = true := by simpa using hle
                      rw [hl2] at dd
                      clear hl2
                      go_wp2
                      go_quiet (fail)
                      go_wp2
                      go_roundw
                      case rel =>
                        have hbd : Below wr.heap.size wr (wr.drewN nq) := ⟨rfl, rfl, rfl, Nat.le_refl _, fun _ _ => rfl⟩
                        exact ⟨y + 1, by go_num, by omega, hD3.out.call hbd, owns_call hO3.out hbd, hQ3.out.call hbd, hF3.out.call hbd⟩
                      case measure => simp [intOf]; omega
                    · have hl2 : decide (A y ≤ nw + dv) = false := by simpa using hle
                      rw [hl2] at dd
                      clear hl2
                      go_wp2
                      go_quiet (fail)
                      go_wp2
                      go_roundw
                      case rel =>
                        have hbd : Below wr.heap.size wr (wr.drewN nq) := ⟨rfl, rfl, rfl, Nat.le_refl _, fun _ _ => rfl⟩
                        exact ⟨y + 1, by go_num, by omega, hD3.out.call hbd, owns_call hO3.out hbd, hQ3.out.call hbd, hF3.out.call hbd⟩
                      case measure => simp [intOf]; omega
                  · go_wp2_with fail
                    go_roundw
                    case rel => exact ⟨k + 1, nw + dv, nw + dv, by go_num, by omega, rfl, by omega, by omega, by omega, hD3, hO3, hQ3, hF3⟩
                    case measure => simp [intOf]; omega
          · go_wp2_with fail
            go_ret
            exact ⟨rfl, hF.out.below⟩
end Go.Proofs.Ytjpkglgbcflbnaa
