/- Walks: heap.Push and heap.Pop at a queue. -/
import Derived.Test.YtjpkglgbcflbnaaUp2
namespace Go.Proofs.Ytjpkglgbcflbnaa
open Go.RowKit

def flat (l : List Tk) : List Value := l.flatMap fun p => [.int .i64 p.1, .int .i64 p.2]

@[simp] theorem flat_nil : flat [] = [] := rfl
@[simp] theorem flat_cons (p : Tk) (l : List Tk) : flat (p :: l) = .int .i64 p.1 :: .int .i64 p.2 :: flat l := rfl
theorem flat_append (l k : List Tk) : flat (l ++ k) = flat l ++ flat k := by simp [flat]
@[simp] theorem flat_length (l : List Tk) : (flat l).length = l.length * 2 := by
  induction l with
  | nil => rfl
  | cons p l ih => simp [ih]; omega
theorem flat_at (l : List Tk) (i : Nat) (p : Tk) (h : l[i]? = some p) : (flat l)[i * 2]? = some (.int .i64 p.1) ∧ (flat l)[i * 2 + 1]? = some (.int .i64 p.2) := by
  induction l generalizing i with
  | nil => simp at h
  | cons q l ih =>
    cases i with
    | zero => simp at h; subst h; simp
    | succ i => simp at h; have := ih i h; simpa [Nat.add_mul] using this

theorem G_toList (d : Array Tk) (i : Nat) (hi : i < d.size) : d.toList[i]? = some (G d i) := by simp [G, hi]

/-- Queue b has slot s and its waiting tickets d in row r. -/
structure QS (w : World) (b : Nat) (r : Option Nat) (s : Int) (d : Array Tk) : Prop where
  ex : ∃ v, Blk w b #[.int .i64 s, v] 33 ∧ w.ownsRow 0 60 2 v d.size (flat d.toList) ∧ v.ownBlock = r
  ne : r ≠ some b
  sm : d.size ≤ 100000

theorem QS.hq {w : World} {b : Nat} {r : Option Nat} {s : Int} {d : Array Tk} (h : QS w b r s d) (h0 : 0 < d.size) : ∃ g c, r = some g ∧ HQ w b g s c d := by
  obtain ⟨v, hb, ho, hr⟩ := h.ex
  rcases ho.2 with ⟨_, h1⟩ | ⟨g, cap, cur, rfl, _, hg, h1, h2, h3, h4⟩
  · omega
  · have hr' : r = some g := by rw [← hr]; rfl
    refine ⟨g, cap, hr', hb, fun e => h.ne (hr'.trans (by rw [e])), h1, h2, by have := h.sm; omega, cur, hg, h3, fun i hi => ?_⟩
    have := flat_at d.toList i (G d i) (G_toList d i hi)
    rw [← h4] at this
    rw [List.getElem?_take, List.getElem?_take] at this
    simp only [show i * 2 < d.size * 2 by omega, show i * 2 + 1 < d.size * 2 by omega, if_true, Array.getElem?_toList] at this
    exact this

theorem flat_of_cells (cur : Array Value) (d : Array Tk) (h : ∀ i, i < d.size → cur[i * 2]? = some (.int .i64 (G d i).1) ∧ cur[i * 2 + 1]? = some (.int .i64 (G d i).2)) : cur.toList.take (d.size * 2) = flat d.toList := by
  apply List.ext_getElem?
  intro m
  rw [List.getElem?_take]
  by_cases hm : m < d.size * 2
  · rw [if_pos hm]
    have hi : m / 2 < d.size := by omega
    have h1 := h (m / 2) hi
    have h2 := flat_at d.toList (m / 2) (G d (m / 2)) (G_toList d (m / 2) hi)
    rcases Nat.mod_two_eq_zero_or_one m with e | e
    · have : m / 2 * 2 = m := by omega
      rw [this] at h1 h2
      rw [h2.1, Array.getElem?_toList]; exact h1.1
    · have : m / 2 * 2 + 1 = m := by omega
      rw [this] at h1 h2
      rw [h2.2, Array.getElem?_toList]; exact h1.2
  · rw [if_neg hm, List.getElem?_eq_none (by simp; omega)]

theorem HQ.qs {w : World} {b g : Nat} {s : Int} {c : Nat} {d : Array Tk} (h : HQ w b g s c d) (hs : d.size ≤ 100000) : QS w b (some g) s d := by
  obtain ⟨cur, h1, h2, h3⟩ := h.row
  exact ⟨⟨_, h.q, ⟨by simp, .inr ⟨g, c, cur, rfl, Nat.zero_le _, h1, h.le, h.cap, h2, flat_of_cells cur d h3⟩⟩, rfl⟩, fun e => h.ne (by simpa using e), hs⟩

theorem G_push (d : Array Tk) (p : Tk) (k : Nat) : G (d.push p) k = if k = d.size then p else G d k := by
  unfold G
  rw [Array.getElem?_push]
  split <;> simp

theorem push_up (d : Array Tk) (p : Tk) (h : Heaped d d.size) : UpInv (d.push p) (d.push p).size d.size := by
  constructor
  · intro k h0 hk hne
    simp at hk
    rw [G_push, G_push, if_neg (by omega), if_neg hne]
    exact h k h0 (by omega)
  · intro k h0 hk hp _
    simp at hk; omega

set_option maxRecDepth 10000 in
set_option maxHeartbeats 1000000 in
theorem hpush_any (b : Nat) (r : Option Nat) (s : Int) (d : Array Tk) (p : Tk) (w : World) (h : QS w b r s d) (hs : d.size < 1000) (hh : Heaped d d.size) :
    Calls Try.prog 30 #[.iface 63 (.pointer (some ⟨b, 1, none⟩)), .iface 60 (.agg #[.int .i64 p.1, .int .i64 p.2])] w fun e w' => e = .returned (.tuple #[]) ∧
      ∃ r' d', QS w' b r' s d' ∧ d'.Perm (d.push p) ∧ Heaped d' d'.size ∧ Keep2 w w' b r ∧ (∀ x, r' = some x → r = some x ∨ w.heap.size ≤ x) := by
  have hm := meth_push b w
  obtain ⟨v, hb, ho, hr⟩ := h.ex
  have HB := hid hb; have HO := hid ho; have HR := hid hr; have HH := hid hh; have HQ0 := hid h
  clear hb ho hr hh h
  go_enter Try.func30, Try.ntmps30
  go_wp2_with fail
  refine (pushM_any b d.size v (flat d.toList) s p w (by omega) HB.out HO.out (by rw [HR.out]; exact HQ0.out.ne)).mono ?_
  rintro e w1 ⟨rfl, v1, hb1, ho1, hne1, hk1, hf1⟩
  have hq1 : QS w1 b v1.ownBlock s (d.push p) := ⟨⟨v1, hb1, by rw [Array.size_push]; simpa [flat_append] using ho1, rfl⟩, hne1, by simp; omega⟩
  obtain ⟨g, c, hg, hqq⟩ := hq1.hq (by simp)
  have HG := hid hg; have HQ1 := hid hqq; have HK1 := hid hk1; have HF1 := hid hf1
  have hm1 := meth_len b w1 _ HQ1.out.l
  clear hm hb1 ho1 hne1 hk1 hf1 hq1 hg hqq
  go_wp2_with fail
  refine (len_any _ _ _ _).mono ?_; rintro e w2 ⟨rfl, rfl⟩
  go_wp2_with fail
  refine (up_any b g c s (d.push p) d.size w1 HQ1.out (by simp) (push_up d p HH.out)).mono ?_
  rintro e w2 ⟨rfl, d', hq2, hp2, hh2, hk2⟩
  have HQ2 := hid hq2; have HP2 := hid hp2; have HH2 := hid hh2; have HK2 := hid hk2
  clear hm1 hq2 hp2 hh2 hk2
  go_wp2_with fail
  go_end0
  have hrr : Hid (v.ownBlock = r) := HR
  have hkk : Keep2 w w2 b v.ownBlock := HK1.out.trans HK2.out (fun x hx => HF1.out x (HG.out.trans hx))
  have hff : ∀ x, (some g : Option Nat) = some x → v.ownBlock = some x ∨ w.heap.size ≤ x := fun x hx => HF1.out x (HG.out.trans hx)
  rw [hrr.out] at hkk hff
  exact ⟨rfl, some g, d', HQ2.out.qs (by have := perm_size HP2.out; simp at this; omega), HP2.out, HH2.out, hkk, hff⟩

theorem pop_dn (d : Array Tk) (n : Nat) (hn : d.size = n + 1) (h : Heaped d d.size) : DnInv (sw d 0 n) n 0 := by
  constructor
  · intro k h0 hk hne
    rw [G_sw d (by omega) (by omega), G_sw d (by omega) (by omega), if_neg hne, if_neg (by omega), if_neg (by omega), if_neg (by omega)]
    exact h k h0 (by omega)
  · intro k _ _ _ h0; omega

theorem G_pop (d : Array Tk) (k : Nat) (hk : k < d.size - 1) : G d.pop k = G d k := by
  unfold G
  rw [Array.getElem?_pop, if_pos (by omega)]

theorem pop_push (d : Array Tk) (n : Nat) (hn : d.size = n + 1) : d.pop.push (G d n) = d := by
  apply Array.ext_getElem?
  intro k
  rw [Array.getElem?_push, Array.size_pop]
  by_cases hk : k = n
  · subst hk; rw [if_pos (by omega)]; simp [G, hn]
  · rw [if_neg (by omega), Array.getElem?_pop]
    by_cases h : k < n
    · rw [if_pos (by omega)]
    · rw [if_neg (by omega), Array.getElem?_eq_none (by omega)]

theorem HQ.popped {w : World} {b g : Nat} {s : Int} {c n : Nat} {d : Array Tk} (h : HQ w b g s c d) (hn : d.size = n + 1) (o : Obj) : HQ ((w.setCell ⟨b, 1, none⟩ (.slice (some ⟨g, 0, none⟩) n c)).alloc o) b g s c d.pop := by
  obtain ⟨cur, h1, h2, h3⟩ := h.row
  have hle := h.le; have hsm := h.sm
  have hsz : d.pop.size = n := by simp [hn]
  refine ⟨?_, h.ne, by omega, h.cap, by omega, cur, (h1.other (fun e => h.ne e.symm) _).alloc o, h2, fun i hi => ?_⟩
  · rw [hsz]
    have := (h.q.set 1 (.slice (some ⟨g, 0, none⟩) n c)).alloc o
    simpa using this
  · rw [G_pop d i (by omega)]; exact h3 i (by omega)

set_option maxRecDepth 10000 in
set_option maxHeartbeats 1000000 in
theorem hpop_any (b : Nat) (r : Option Nat) (s : Int) (d : Array Tk) (w : World) (h : QS w b r s d) (h0 : 0 < d.size) (hh : Heaped d d.size) :
    Calls Try.prog 32 #[.iface 63 (.pointer (some ⟨b, 1, none⟩))] w fun e w' => e = .returned (.iface 60 (.agg #[.int .i64 (G d 0).1, .int .i64 (G d 0).2])) ∧
      ∃ d', QS w' b r s d' ∧ (d'.push (G d 0)).Perm d ∧ Heaped d' d'.size ∧ Keep2 w w' b r := by
  obtain ⟨g, c, rfl, hq⟩ := h.hq h0
  obtain ⟨n, hn⟩ : ∃ n, d.size = n + 1 := ⟨d.size - 1, by omega⟩
  have hsm : n < 100000 := by have := h.sm; omega
  have HN := hid hn; have HQ0 := hid hq; have HH := hid hh
  have hm := meth_len b w _ hq.l
  have hm2 := meth_swap b w _ hq.l
  rw [hn] at hm hm2
  clear h h0 hq hh hn
  go_enter Try.func32, Try.ntmps32
  go_wp2_with fail
  refine (len_any _ _ _ _).mono ?_; rintro e w1 ⟨rfl, rfl⟩
  go_wp2_with fail
  have hsw := swapQ HQ0.out 0 n (by rw [HN.out]; omega) (by rw [HN.out]; omega)
  rw [HN.out] at hsw
  refine hsw.mono ?_
  rintro e w1 ⟨rfl, hq1, hk1⟩
  have HQ1 := hid hq1; have HK1 := hid hk1
  clear hm hm2 hsw hq1 hk1
  go_wp2_with fail
  refine (down_any b g c n s (sw d 0 n) w1 HQ1.out (by rw [size_sw, HN.out]; omega) (pop_dn d n HN.out HH.out)).mono ?_
  rintro e w2 ⟨⟨rb, rfl⟩, d2, hq2, hp2, hh2, hr2, hk2⟩
  have HQ2 := hid hq2; have HP2 := hid hp2; have HH2 := hid hh2; have HR2 := hid hr2; have HK2 := hid hk2
  have hm3 := meth_pop b w2
  clear hq2 hp2 hh2 hr2 hk2
  go_wp2_with fail
  have hs2 : Hid (d2.size = n + 1) := by have := perm_size HP2.out; simp at this; exact this.trans HN.out
  have hpm := popM_any b g n c s (G d2 n) w2 (by omega) (by rw [← hs2.out]; exact HQ2.out.q) (by rw [← hs2.out]; exact HQ2.out.le) HQ2.out.cap (HQ2.out.c0 (by rw [hs2.out]; omega)) (HQ2.out.c1 (by rw [hs2.out]; omega))
  have hg : G d2 n = G d 0 := by rw [HR2.out n (Nat.le_refl _), G_sw d (by rw [HN.out]; omega) (by rw [HN.out]; omega)]; by_cases e : n = 0 <;> simp [e]
  rw [hg] at hpm
  refine hpm.mono ?_
  rintro e w3 ⟨rfl, rfl⟩
  have HG := hid hg
  clear hpm hg hm3
  go_wp2_with fail
  go_ret
  refine ⟨rfl, d2.pop, (HQ2.out.popped hs2.out _).qs (by simp [hs2.out]; omega), ?_, ?_, ?_⟩
  · rw [← HG.out, pop_push d2 n hs2.out]
    exact HP2.out.trans (sw_perm _ _ _)
  · intro k k0 hk
    simp [hs2.out] at hk
    rw [G_pop d2 k (by rw [hs2.out]; omega), G_pop d2 _ (by rw [hs2.out]; omega)]
    exact HH2.out k k0 (by omega)
  · exact ((HK1.out.trans HK2.out (fun x hx => .inl hx)).set (.inl rfl) _).alloc _
end Go.Proofs.Ytjpkglgbcflbnaa
