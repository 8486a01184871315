/- Walks: slices.SortFunc at waiting tickets. -/
import Derived.Test.YtjpkglgbcflbnaaSortLay
import Derived.Test.YtjpkglgbcflbnaaKnown
import Derived.Sort.OwnSortedInts
namespace Go.Proofs.Ytjpkglgbcflbnaa
open Go.RowKit Go.Sort Go.Shelf Go.Lib

set_option maxRecDepth 10000 in
set_option maxHeartbeats 400000 in
theorem order_grow (p q : Tk) (w : World) : Calls Try.prog 34 #[.agg #[.int .i64 p.1, .int .i64 p.2], .agg #[.int .i64 q.1, .int .i64 q.2]] w fun e w' => e = .returned (.int .i64 (ordI p q)) ∧ ∃ n os', w' = grow (w.drewN n) os' := by
  obtain ⟨p1, p2⟩ := p
  obtain ⟨q1, q2⟩ := q
  dsimp only
  go_enter Try.func34, Try.ntmps34
  go_wp2
  refine region_tail 10 (by kernel_rfl) (by kernel_rfl) ?_
  simp only [List.take_succ_cons, List.take_zero, List.drop_succ_cons, List.drop_zero]
  have hcmp : ∀ (a b : Int) (w : World), Calls Try.prog 41 #[.int .i64 a, .int .i64 b] w fun e w' => e = .returned (.int .i64 (cmpI a b)) ∧ w' = w := fun a b w => (compare_any a b w).mono fun _ _ ⟨h, k⟩ => ⟨h, k.symm⟩
  have HC := hid hcmp; clear hcmp
  iterate 4 still_step
  still_call (HC.out _ _ _)
  iterate 4 still_step
  still_call (HC.out _ _ _)
  refine wpStill_nil ?_
  go_wp2_with fail
  refine (or_any _ _ _ _ 3 (Blk.drew (Blk.made _ _ _ (by simp))) _).mono ?_; rintro e w1 ⟨rfl, rfl⟩
  go_wp2_with fail
  go_ret
  exact ⟨rfl, 1, _, by rw [alloc_eq_grow, alloc_eq_grow, alloc_eq_grow, grow_grow, grow_grow, drew_grow]; rfl⟩

def encT (p : Tk) : List Value := [.int .i64 p.1, .int .i64 p.2]

theorem swoT : SWO (ltOf ordI) where
  irrefl x := by
    simp only [ltOf, decide_eq_false_iff_not, ordI_neg, Decidable.not_not]
    exact tle_refl x
  trans x y z h1 h2 := by
    simp only [ltOf, decide_eq_true_eq, ordI_neg] at *
    unfold tle at *; omega
  ntrans x y z h1 h2 := by
    simp only [ltOf, decide_eq_false_iff_not, ordI_neg, Decidable.not_not] at *
    exact tle_trans h2 h1

theorem flatK_flat (d : Array Tk) : (flatK encT 2 d).toList = flat d.toList := by
  have h := flat_of_cells (flatK encT 2 d) d (fun i hi => by
    have e1 := get_flatK encT 2 d (i * 2) (by omega)
    have e2 := get_flatK encT 2 d (i * 2 + 1) (by omega)
    rw [getElem!_pos _ _ (by simp; omega)] at e1 e2
    have g : d[i]! = G d i := by simp [G, hi]
    constructor
    · rw [Array.getElem?_eq_getElem (by simp; omega), e1]
      rw [show i * 2 / 2 = i by omega, show i * 2 % 2 = 0 by omega, g]; rfl
    · rw [Array.getElem?_eq_getElem (by simp; omega), e2]
      rw [show (i * 2 + 1) / 2 = i by omega, show (i * 2 + 1) % 2 = 1 by omega, g]; rfl)
  rwa [List.take_of_length_le (by simp)] at h

theorem heap_sortedK {w : World} {g n : Nat} {os : Array Obj} {cur : Array Value} {e : TypeId} {fr : Nat × Nat} (d : Array Value) (hb : w.heap[g]? = some (.cells cur e fr)) :
    (grow (putRow id (Sort.ahead w n) g 0 d) os).heap[g]? = some (.cells (putCells id 0 d cur) e fr) := by
  have hg : g < w.heap.size := (Array.getElem?_eq_some_iff.1 hb).1
  rw [heap_grow_old _ _ (by simpa using hg)]
  simp [putRow, mapBlock, Sort.ahead, Array.getElem?_modify, hb, onCells]

theorem below_sortedK {w : World} {g n base : Nat} {os : Array Obj} (d : Array Value) (hb : base ≤ g) (hw : base ≤ w.heap.size) : Below base w (grow (putRow id (Sort.ahead w n) g 0 d) os) := by
  refine ⟨rfl, rfl, rfl, by simp, fun k hk => ?_⟩
  rw [heap_grow_old _ _ (by simp; omega)]
  have : g ≠ k := by omega
  simp [putRow, mapBlock, Sort.ahead, Array.getElem?_modify, this]

theorem take_putCellsK (cur F : Array Value) (h : F.size ≤ cur.size) : (putCells id 0 F cur).toList.take F.size = F.toList := by
  apply List.ext_getElem?
  intro j
  by_cases hj : j < F.size
  · rw [List.getElem?_take_of_lt hj, Array.getElem?_toList]
    simp [putCells, hj, show j < cur.size by omega]
  · rw [List.getElem?_take_eq_none (by omega), List.getElem?_eq_none (by simp; omega)]

theorem permIn_all {d d' : Array Tk} (h : PermIn 0 d.size d d') : d'.size = d.size ∧ d'.toList.Perm d.toList := by
  obtain ⟨h1, _, h3⟩ := h
  refine ⟨h1, ?_⟩
  have e1 : d'.extract 0 d.size = d' := by rw [← h1]; simp
  have e2 : d.extract 0 d.size = d := by simp
  rwa [e1, e2] at h3

theorem sortedIn_all {d' : Array Tk} (h : SortedIn (ltOf ordI) 0 d'.size d') : Sorted d'.toList := by
  rw [Sorted, List.pairwise_iff_getElem]
  intro i j hi hj hij
  have := h i j (Nat.zero_le _) hij (by simpa using hj)
  simp only [ltOf, decide_eq_false_iff_not, ordI_neg, Decidable.not_not] at this
  rw [getElem!_pos _ _ (by simpa using hi), getElem!_pos _ _ (by simpa using hj)] at this
  simpa using this

set_option maxHeartbeats 2000000 in
theorem sort_some (g cap base : Nat) (d : Array Tk) (w : World) (cur : Array Value) (hb : base ≤ g) (hg : w.heap[g]? = some (.cells cur 60 (0, 0))) (h1 : d.size ≤ cap) (h2 : cap ≤ maxLen) (h3 : cur.size = cap * 2) (h4 : cur.toList.take (d.size * 2) = flat d.toList) (hs : d.size ≤ 1000) (l : List Tk) (hl : Sorted l) (hp : d.toList.Perm l) :
    Calls Try.prog 33 #[.slice (some ⟨g, 0, none⟩) d.size cap, .func (.func 34) #[] #[]] w fun e w' => e = .returned (.tuple #[]) ∧ w'.ownsRow base 60 2 (.slice (some ⟨g, 0, none⟩) d.size cap) d.size (flat l) ∧ Below base w w' := by
  have hblk : g < w.heap.size := (Array.getElem?_eq_some_iff.1 hg).1
  have eg : ∀ args w, (callFunc 34 args).run Try.prog w = .ok (.enter 34 args) w := enters_of Try.func34 (by kernel_rfl) rfl
  have hH : HoldsK encT 2 w g 0 d := by
    intro j hj
    have hj' : j < d.size * 2 := by simpa using hj
    refine ⟨?_, by simp [World.frozen?, hg]⟩
    have e : (cur.toList.take (d.size * 2))[j]? = (flatK encT 2 d).toList[j]? := by rw [h4, flatK_flat]
    rw [List.getElem?_take_of_lt hj'] at e
    simp only [World.cell?, hg, Nat.zero_add]
    simp only [Option.isSome_none, Bool.false_eq_true, if_false]
    rw [← Array.getElem?_toList, e, Array.getElem?_toList, Array.getElem?_eq_getElem hj, getElem!_pos (flatK encT 2 d) j hj]
    rfl
  have hcmp : CmpLays Try.prog 34 #[] encT 2 ordI g 0 d.size w := fun _ _ _ _ x y => order_grow x y _
  have hd : ∀ x : Tk, (encT x).length = 2 := fun _ => rfl
  have h1c : ∀ x : Tk, ∀ v ∈ encT x, v.oneCell' = true := fun x v hv => by simp [encT] at hv; rcases hv with rfl | rfl <;> rfl
  have hlim : Lib.bitLen d.size < 4611686018427387904 := Nat.lt_of_le_of_lt (Lib.bitLen_le d.size 62 (by omega) (by omega)) (by omega)
  have hpd := AnyQ.pdqsortCmpFunc_all Try.sortW 2 Try.isAgg60 Try.sizeOf60 encT ordI 34 #[] swoT g 0 cap d w eg hcmp ⟨hd, h1c, hH, hblk⟩ (d.size + 1) 0 d.size (Lib.bitLen d.size) d w (by omega) rfl (SWK.start hH) (Nat.zero_le _) (Nat.le_refl _) (by omega) hlim (Or.inl rfl)
  change Calls Try.prog 38 _ _ _ at hpd
  have hbl : Calls Try.prog 39 #[.int .u64 (d.size : Int)] w fun e w' => e = .returned (.int .i64 (Lib.bitLen d.size : Nat)) ∧ w' = w := by
    have h := Any.bits_Len Try.lenW (d.size : Int) w (by omega) (by omega)
    rwa [Int.toNat_natCast] at h
  have wr : IntKind.u64.wrap (d.size : Int) = d.size := by simp [IntKind.wrap, IntKind.bits, IntKind.signed]; omega
  have hz := pdq_sorts (ltOf ordI) swoT d 0 d.size (Lib.bitLen d.size) true true (Nat.zero_le _) (Nat.le_refl _) (Or.inl rfl)
  have P := permIn_all hz.1
  have hz2 := hz.2
  generalize pdq (ltOf ordI) d 0 d.size (Lib.bitLen d.size) true true = d' at *
  have S : Sorted d'.toList := sortedIn_all (P.1 ▸ hz2)
  have hd' : d'.toList = l := sorted_eq (P.2.trans hp) S hl
  clear hH hcmp hz hz2
  have h2h := hid h2; clear h2
  have h4h := hid h4; clear h4
  go_enter Try.func33, Try.ntmps33
  go_wp2_with (first | (go_at_call 39; refine hbl.mono ?_; rintro e w' ⟨rfl, rfl⟩) | (go_at_call 38; refine hpd.mono ?_; rintro e w' ⟨rfl, n, os, rfl⟩))
  go_end0
  refine ⟨rfl, ⟨?_, .inr ⟨g, cap, _, rfl, hb, heap_sortedK _ hg, h1, h2h.out, by simp [putCells, h3], ?_⟩⟩, below_sortedK _ hb (by omega)⟩
  · rw [flat_length, ← hd']; simp [P.1]
  · rw [← hd', ← flatK_flat]
    have := take_putCellsK cur (flatK encT 2 d') (by rw [size_flatK, P.1, h3]; omega)
    rwa [size_flatK, P.1] at this
end Go.Proofs.Ytjpkglgbcflbnaa
