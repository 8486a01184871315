/- Walks: the reference's Due. -/
import Derived.Test.YtjpkglgbcflbnaaRefCopy
namespace Go.Proofs.Ytjpkglgbcflbnaa
open Go.RowKit

/-- A source whose address is that of a cell. -/
structure SrcP (w : World) (a : Option Addr) (l : List Tk) : Prop where
  src : Src w a l.length (flatR l)
  plain : ∀ ad, a = some ad → ad.spot = none

theorem flatR_drop (l : List Tk) (k : Nat) : (flatR l).drop (k * 2) = flatR (l.drop k) := by
  induction l generalizing k with
  | nil => simp
  | cons p l ih =>
    cases k with
    | zero => simp
    | succ k => rw [show (k + 1) * 2 = k * 2 + 1 + 1 by omega]; exact ih k

theorem flatR_take (l : List Tk) (k : Nat) : (flatR l).take (k * 2) = flatR (l.take k) := by
  induction l generalizing k with
  | nil => simp
  | cons p l ih =>
    cases k with
    | zero => simp
    | succ k => 
      rw [show (k + 1) * 2 = k * 2 + 1 + 1 by omega]
      have := ih k
      show (.int .i64 p.2 :: .int .i64 p.1 :: flatR l).take (k * 2 + 1 + 1) = .int .i64 p.2 :: .int .i64 p.1 :: flatR (l.take k)
      rw [List.take_succ_cons, List.take_succ_cons, this]

theorem suffix_src {w : World} {a : Option Addr} {l : List Tk} (h : SrcP w a l) {k c : Nat} (hk : k ≤ l.length) (hc : l.length ≤ c) : Src w (if c = k then a else Option.map (fun x => x.add (k * 2)) a) (l.length - k) (flatR (l.drop k)) := by
  refine ⟨by simp, flatR_one _, fun j u hu => ?_⟩
  rw [← flatR_drop, List.getElem?_drop] at hu
  have hj : k * 2 + j < l.length * 2 := by have := (List.getElem?_eq_some_iff.1 hu).1; simpa using this
  rw [if_neg (by omega)]
  obtain ⟨ad, rfl, hcell⟩ := h.src.cell _ u hu
  exact ⟨_, rfl, by rw [Addr.add_add]; exact hcell⟩

theorem prefix_src {w : World} {a : Option Addr} {l : List Tk} (h : SrcP w a l) {k : Nat} (hk : k ≤ l.length) : Src w a k (flatR (l.take k)) := by
  refine ⟨by simp; omega, flatR_one _, fun j u hu => ?_⟩
  rw [← flatR_take, List.getElem?_take] at hu
  split at hu
  · exact h.src.cell _ u hu
  · cases hu

theorem SrcP.call {w w' : World} {a : Option Addr} {l : List Tk} (h : SrcP w a l) (hb : ∀ a v, w.cell? a = some v → w'.cell? a = some v) : SrcP w' a l := ⟨h.src.call hb, h.plain⟩

theorem RQ.srcP {w : World} {b : Nat} {r : Option Nat} {s : Int} {l : List Tk} (h : RQ w b r s l) {a : Option Addr} {c : Nat} (c1 : w.cell? ⟨b, 1, none⟩ = some (.slice a l.length c)) : SrcP w a l := by
  refine ⟨h.src c1, fun ad e => ?_⟩
  obtain ⟨v, h1, h2, h3⟩ := h.ex
  have hv : v = .slice a l.length c := by
    have := h1.cell 1
    rw [c1] at this
    simpa using this.symm
  subst hv e
  rcases h2.2 with ⟨e, _⟩ | ⟨g, cap, cur, e, _⟩
  · simp at e
  · simp at e; rw [e.1]

theorem below_cells {B : Nat} {w w' : World} (h : Below B w w') (hB : w.heap.size ≤ B) : ∀ a v, w.cell? a = some v → w'.cell? a = some v :=
  fun _ _ k => (h.cell (Nat.lt_of_lt_of_le (World.block_lt_of_cell? w _ k) hB)).trans k

theorem empty_row' (w : World) : Hid ((w.alloc (.cells #[] 73)).ownsRow 0 73 2 (.slice (some ⟨w.heap.size, 0, none⟩) 0 0) 0 []) :=
  ⟨rfl, .inr ⟨w.heap.size, 0, #[], rfl, Nat.zero_le _, Blk.new w #[] 73, Nat.le_refl _, by unfold maxLen; omega, rfl, rfl⟩⟩

theorem RQ.blk {w : World} {b : Nat} {r : Option Nat} {s : Int} {l : List Tk} (h : RQ w b r s l) {a : Option Addr} {c : Nat} (c1 : w.cell? ⟨b, 1, none⟩ = some (.slice a l.length c)) : Blk w b #[.int .i64 s, .slice a l.length c] 71 := by
  obtain ⟨v, h1, h2, h3⟩ := h.ex
  have hv : v = .slice a l.length c := by
    have := h1.cell 1
    rw [c1] at this
    simpa using this.symm
  subst hv
  exact h1

/-- The end of a method that gives the queue a new row. -/
theorem rq_set {wr w0 w1 : World} {b : Nat} {row : Nat} {s : Int} {u : Value} {a1 : Option Addr} {k1 : Nat} {k : List Tk} (hb : Blk w1 b #[.int .i64 s, u] 71) (hown : w1.ownsRow 0 73 2 (.slice a1 k.length k1) k.length (flatR k)) (hsm : k.length ≤ 900)
    (hw0 : w0.heap.size ≤ wr.heap.size) (hbw : b < w0.heap.size) (hrow : row = wr.heap.size) (hat : (Value.slice a1 k.length k1).ownBlock = (Value.slice (some ⟨row, 0, none⟩) 0 0).ownBlock ∨ ∃ z, wr.heap.size ≤ z ∧ (Value.slice a1 k.length k1).ownBlock = some z) :
    RQ (w1.setCell ⟨b, 1, none⟩ (.slice a1 k.length k1)) b (Value.slice a1 k.length k1).ownBlock s k ∧ ∀ x, (Value.slice a1 k.length k1).ownBlock = some x → w0.heap.size ≤ x := by
  have hx : ∀ x, (Value.slice a1 k.length k1).ownBlock = some x → w0.heap.size ≤ x := fun x hx => by
    rcases hat with e | ⟨z, hz, e⟩
    · rw [hx] at e; simp [Value.ownBlock] at e; omega
    · rw [hx] at e; simp at e; omega
  have hne : (Value.slice a1 k.length k1).ownBlock ≠ some b := fun e => by have := hx b e; omega
  refine ⟨⟨hsm, ⟨_, ?_, ?_, rfl⟩, hne⟩, hx⟩
  · have := hb.set 1 (.slice a1 k.length k1)
    simpa using this
  · exact ((Keep2.refl w1 b none).set (.inl rfl) _).owns hown hne (Decidable.em _)

theorem due_keep {wr w1 : World} {o : Obj} {x : Option Nat} (hg : (wr.alloc o).grownBy w1 x) (hx : x = some wr.heap.size) (b : Nat) (v : Value) : Keep2 wr (w1.setCell ⟨b, 1, none⟩ v) b none :=
  (((Keep2.refl wr b none).alloc o).trans (grownBy_keep2 hg b) (fun y hy => by subst hx; simp at hy; right; omega)).set (.inl rfl) v

theorem due_end {w wr w1 : World} {o : Obj} {x : Option Nat} {b : Nat} {s : Int} {u v : Value} {a1 : Option Addr} {k1 n : Nat} {xs : List Value} {k : List Tk} (hk : Below w.heap.size w wr) (hg : (wr.alloc o).grownBy w1 x) (hx : x = some wr.heap.size)
    (hb : Blk w1 b #[.int .i64 s, u] 71) (hown : w1.ownsRow 0 73 2 (.slice a1 k.length k1) k.length (flatR k)) (hsm : k.length ≤ 900) (hbw : b < w.heap.size)
    (hat : (Value.slice a1 k.length k1).ownBlock = (Value.slice (some ⟨wr.heap.size, 0, none⟩) 0 0).ownBlock ∨ (Value.slice a1 k.length k1).ownBlock = some (wr.alloc o).heap.size) (hv : wr.ownsRow w.heap.size 3 1 v n xs) :
    ∃ r', (w1.setCell ⟨b, 1, none⟩ (.slice a1 k.length k1)).ownsRow w.heap.size 3 1 v n xs ∧ RQ (w1.setCell ⟨b, 1, none⟩ (.slice a1 k.length k1)) b r' s k ∧ Keep2 w (w1.setCell ⟨b, 1, none⟩ (.slice a1 k.length k1)) b none ∧ (∀ x, r' = some x → w.heap.size ≤ x) := by
  have hq := rq_set (wr := wr) (w0 := w) (row := wr.heap.size) hb hown hsm hk.size hbw rfl (hat.imp id fun e => ⟨_, by simp, e⟩)
  have hk2 := due_keep hg hx b (.slice a1 k.length k1)
  exact ⟨_, hk2.owns hv (fun e => by have := (hv.lt b e).1; omega) (Decidable.em _), hq.1, (Below.keep2 hk b none).trans hk2 (fun _ h => by cases h), hq.2⟩

theorem srcOf {w wr : World} {b : Nat} {r : Option Nat} {s : Int} {l : List Tk} (h : RQ w b r s l) {a : Option Addr} {c : Nat} (c1 : w.cell? ⟨b, 1, none⟩ = some (.slice a l.length c)) (hb : Below w.heap.size w wr) : SrcP (wr.alloc (.cells #[] 73)) a l :=
  (h.srcP c1).call (below_cells (hb.alloc hb.size _) (Nat.le_refl _))

/-- What Due leaves. -/
def DueR (w : World) (b : Nat) (s now : Int) (l : List Tk) (e : Ending) (w' : World) : Prop := ∃ v r', e = .returned v ∧
      w'.ownsRow w.heap.size 3 1 v (dueL now l).length ((dueL now l).map fun p => .int .i64 p.2) ∧ RQ w' b r' s (notDue now l) ∧ Keep2 w w' b none ∧ (∀ x, r' = some x → w.heap.size ≤ x)

set_option maxRecDepth 10000 in
set_option maxHeartbeats 2000000 in
theorem rdue_any (w : World) (b : Nat) (r : Option Nat) (s : Int) (l : List Tk) (now : Int) (h : RQ w b r s l) :
    Calls Try.prog 23 #[.pointer (some ⟨b, 0, none⟩), .int .i64 now] w fun e w' => DueR w b s now l e w' := by
  obtain ⟨i0, hi, hz0, hz1, hz2⟩ := info_parts Try.info3
  have hsm := h.sm; have hlt := h.lt
  obtain ⟨c0, a, c, hc, hcm, c1, hcell⟩ := h.cells
  have H := hid h; have HC := hid hcell; have C1 := hid c1; clear h hcell c1 c0
  go_enter Try.func23, Try.ntmps23
  go_wp2_with fail
  go_loopw [5, 6] (fun v u wr => ∃ m k : List Tk, Hid (l = m ++ k) ∧ Hid (dueL now l = m ++ dueL now k) ∧ Hid (notDue now l = notDue now k) ∧ u = .int .i64 m.length ∧ Hid (wr.ownsRow w.heap.size 3 1 v m.length (m.map fun p => .int .i64 p.2)) ∧ Hid (Below w.heap.size w wr))
    (fun _ u _ => l.length - (intOf u).toNat)
  case atStart => exact ⟨[], l, rfl, rfl, rfl, rfl, World.ownsRow_nil _ _ _ _, Below.refl _ _⟩
  case round =>
    obtain ⟨m, k, hl, hd, hn, rfl, hm, hk⟩ := hrel
    obtain ⟨a4, c4, rfl⟩ := owns_ex hm.out
    have hll : Hid (l.length = m.length + k.length) := by rw [Hid, hl.out, List.length_append]
    have hc1 := (hk.out.cell (p := ⟨b, 1, none⟩) hlt).trans C1.out
    have hltw : b < wr.heap.size := Nat.lt_of_lt_of_le hlt hk.out.size
    cases k with
    | nil =>
      have hnot : ¬ (m.length < l.length) := by have := hll.out; simp at this; omega
      have hnot' : decide ((m.length : Int) < (l.length : Int)) = false := by simp; omega
      have heq : m.length = l.length := by have := hll.out; simp at this; omega
      have hx := hid (show notDue now l = [] by rw [hn.out]; rfl)
      have hdx := hid (show dueL now l = m by rw [hd.out]; simp [dueL])
      have SRC := hid (suffix_src (srcOf H.out C1.out hk.out) (k := l.length) (c := c) (by omega) hc)
      rw [Nat.sub_self, List.drop_length] at SRC
      have HE := empty_row' wr
      have BW := hid ((H.out.blk C1.out).call hk.out)
      go_wp2_with (at_builtin; refine app_list rfl _ _ rfl (.slice (some ⟨wr.heap.size, 0, none⟩) 0 0) 0 [] rfl HE.out _ 0 _ (flatR []) rfl SRC.out (by omega) ?_; intro v1 w1 hown1 hgrow hat; obtain ⟨a1, k1, rfl⟩ := owns_ex hown1; simp only [Nat.zero_add, List.nil_append] at hown1 hat; have B1 := hid ((BW.out.alloc _).grown hgrow (by simp [Value.ownBlock]; omega)); have q2 := B1.out.cell 1; have f2 := B1.out.free 1; simp at q2; have HO1 := hid hown1; have HG := hid hgrow; have HA := hid hat; clear hown1 hgrow hat)
      all_goals
        go_wp2_with fail
        go_ret
        obtain ⟨r', e1, e2, e3, e4⟩ := due_end (k := []) hk.out HG.out rfl B1.out HO1.out (by simp) hlt HA.out hm.out
        have e1' := e1
        rw [heq] at e1'
        exact ⟨.slice a4 l.length c4, r', rfl, by rw [hdx.out, heq]; exact e1', by rw [hx.out]; exact e2, e3, e4⟩
    | cons p k =>
      have hlt' : m.length < l.length := by have := hll.out; simp at this; omega
      have hget : l[m.length]? = some p := by rw [hl.out]; simp
      obtain ⟨g, rfl, hg, e0, e1⟩ := HC.out m.length p hget
      have hcell0 := (hk.out.cell (p := ⟨g, m.length * 2, none⟩) hg).trans e0
      have hcell1 := (hk.out.cell (p := ⟨g, m.length * 2 + 1, none⟩) hg).trans e1
      have hml : m.length < 900 := by omega
      have hwr := hid hk.out.size
      clear e0 e1 hget
      by_cases hle : p.1 ≤ now
      · have hone := hid (cell_one_new wr (.int .i64 p.2) 3)
        go_wp2_with (at_builtin; refine wpList_append_own _ rfl _ _ 38 rfl w.heap.size 3 i0 (.int .i64 0) 1 8 Try.underlying38 hi hz0 hz1 hz2 rfl (by decide) _ m.length _ rfl (hm.out.alloc _) ⟨wr.heap.size, 0, none⟩ 1 1 [.int .i64 p.2] rfl rfl hone.out (by simp [Value.oneCell']) (by unfold maxLen; omega) (by omega) (by have := hwr.out; simp; omega) ?_; intro v' w3 hown3 hgrow3 _)
        have HO3 := hid hown3; have HG3 := hid hgrow3
        clear hown3 hgrow3
        go_wp2_with fail
        go_roundw
        case rel =>
          have hrow : ∀ x, (Value.slice a4 m.length c4).ownBlock = some x → w.heap.size ≤ x := fun x hx => (hm.out.lt x hx).1
          have hk2 : Below w.heap.size wr w3 := by
            have h1 : Below w.heap.size wr (wr.alloc (.cells #[.int .i64 p.2] 3)) := (Below.refl _ _).alloc hwr.out _
            refine h1.trans ⟨HG3.out.os, HG3.out.tape, HG3.out.output, HG3.out.size, fun k hk => HG3.out.block k (by have := h1.size; have := hwr.out; omega) (fun e => ?_)⟩
            have := hrow k e.symm; omega
          exact ⟨m ++ [p], k, by rw [Hid, hl.out]; simp, by rw [Hid, hd.out, dueL_cons_yes hle]; simp, by rw [Hid, hn.out, notDue_cons_yes hle], by simp, by rw [Hid]; simpa using HO3.out, hk.out.trans hk2⟩
        case measure => simp [intOf]; omega
      · have hx := hid (show notDue now l = p :: k by rw [hn.out, notDue_cons_no hle])
        have hdx := hid (show dueL now l = m by rw [hd.out, dueL_cons_no hle]; simp)
        have hlk := hid (show l.length - m.length = (p :: k).length by have := hll.out; simp at this; simp; omega)
        have hdrop : l.drop m.length = p :: k := by rw [hl.out]; simp
        have SRC := hid (suffix_src (srcOf H.out C1.out hk.out) (k := m.length) (c := c) (by omega) hc)
        rw [hdrop, if_neg (by omega), Option.map_some, Addr.add_lit, Nat.zero_add] at SRC
        clear hdrop
        have HE := empty_row' wr
        have BW := hid ((H.out.blk C1.out).call hk.out)
        have hmle : m.length ≤ c := by omega
        go_wp2_with (at_builtin; refine app_list rfl _ _ rfl (.slice (some ⟨wr.heap.size, 0, none⟩) 0 0) 0 [] rfl HE.out _ (l.length - m.length) _ (flatR (p :: k)) rfl SRC.out (by omega) ?_; intro v1 w1 hown1 hgrow hat; obtain ⟨a1, k1, rfl⟩ := owns_ex hown1; simp only [Nat.zero_add, List.nil_append] at hown1 hat; have B1 := hid ((BW.out.alloc _).grown hgrow (by simp [Value.ownBlock]; omega)); have q2 := B1.out.cell 1; have f2 := B1.out.free 1; simp at q2; have HO1 := hid hown1; have HG := hid hgrow; have HA := hid hat; clear hown1 hgrow hat)
        all_goals
          go_wp2_with fail
          go_ret
          rw [hlk.out] at HO1 HA
          obtain ⟨r', e1, e2, e3, e4⟩ := due_end (k := p :: k) hk.out HG.out rfl B1.out HO1.out (by rw [← hlk.out]; omega) hlt HA.out hm.out
          rw [← hlk.out] at e1 e2 e3
          exact ⟨.slice a4 m.length c4, r', rfl, by rw [hdx.out]; exact e1, by rw [hx.out]; exact e2, e3, e4⟩
end Go.Proofs.Ytjpkglgbcflbnaa
