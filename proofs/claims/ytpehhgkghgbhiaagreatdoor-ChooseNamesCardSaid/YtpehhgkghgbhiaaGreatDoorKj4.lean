/- Texts that the proof rests on, merged: L2, L4, N2, N3, Ch1, Zs, Coin, Pk0, Num2, Pk1, Cm0, C1a, Pk2, Tx, QS, Pk3, Pk4, Ch2, Held, Pw1. -/
import Derived.Test.YtpehhgkghgbhiaaGreatDoorKj3
import Derived.Lib.JoinLaws
import Derived.IntWalk
import Derived.WalkLawsBesides
import Derived.Deep.RegionHeld3
namespace Go.Proofs.YtpehhgkghgbhiaaGreatDoor
open Go.RowKit
set_option linter.unusedVariables false
theorem room_nat (n : Nat) (hn : n ≤ 3000000) (W : World) : (Instr.makeSlice 120 (.int .i64 0) (.int .i64 (n : Int))).run Tryz.prog W = .ok (.slice (some ⟨W.heap.size, 0, none⟩) 0 n) (W.alloc (.cells (madeCells #[.int .u64 0] n) 124)) :=
  run_make_room (P := Tryz.prog) 120 124 (.int .u64 0) 8 Tryz.underlying120 (by kernel_rfl) rfl .i64 .i64 n (by omega) (by omega) W
theorem owns_room (w : World) (n : Nat) (hn : n ≤ 3000000) : (w.alloc (.cells (madeCells #[.int .u64 0] n) 124)).ownsRow w.heap.size 124 1 (.slice (some ⟨w.heap.size, 0, none⟩) 0 n) 0 [] :=
  World.ownsRow_made w _ n (Nat.le_refl _) (by unfold maxLen; omega) (by have := size_madeCells #[Value.int .u64 0] n; simpa using this)
set_option maxHeartbeats 4000000 in
theorem l_Add_ge (w : World) (v u : Value) (a b : Nat) (ha : IsN .u64 w v a) (hb : IsN .u64 w u b) (hle : (limbs b).length ≤ (limbs a).length) (hla : (limbs a).length ≤ 1000000) (hlb : (limbs b).length ≤ 1000000) :
    Calls Tryz.prog 167 #[v, u] w fun e w' => RetN .u64 (a + b) e w' ∧ Below w.heap.size w w' := by
  obtain ⟨i0, hi, hz0, hz1, hz2⟩ := info_parts info_u64
  obtain ⟨a1, c1, rfl, h1, h2, h3⟩ := ha.openI
  obtain ⟨a2, c2, rfl, k1, k2, k3⟩ := hb.openI
  have H3 := hid h3; have K3 := hid k3; clear h3 k3 ha hb
  obtain ⟨n, ea⟩ : ∃ n, (limbs a).length = n := ⟨_, rfl⟩
  obtain ⟨m, eb⟩ : ∃ m, (limbs b).length = m := ⟨_, rfl⟩
  rw [ea] at h1 hla hle ⊢
  rw [eb] at k1 hlb hle ⊢
  have HA := hid ea; have HB := hid eb
  clear ea eb
  have q0 : decide (n < m) = false := by simp; omega
  have hmk : ∀ W : World, (Instr.makeSlice 120 (.int .i64 0) (.int .i64 ((n : Int) + 1))).run Tryz.prog W = .ok (.slice (some ⟨W.heap.size, 0, none⟩) 0 (n + 1)) (W.alloc (.cells (madeCells #[.int .u64 0] (n + 1)) 124)) := fun W => by
    have := room_nat (n + 1) (by omega) W
    rwa [Int.natCast_add] at this
  have hmn : m ≤ n := by omega
  clear hle
  go_enter Tryz.func167, Tryz.ntmps167
  go_wp2_with fail
  clear hmk q0
  go_loopw [5, 6, 7, 8, 22] (fun o cc jj nn ii wr => ∃ (s : List Nat) (c : Nat), ii = .int .i64 s.length ∧ cc = .int .u64 c ∧ c ≤ 1 ∧ s.length ≤ n ∧ Hid (PlusI a b s c) ∧ Hid (wr.ownsRow w.heap.size 124 1 o s.length (ints .u64 s)) ∧ Hid (Below w.heap.size w wr))
    (fun _ _ _ _ ii _ => n - (intOf ii).toNat)
  case atStart => exact ⟨[], 0, rfl, rfl, by omega, by simp, PlusI.start a b, owns_room w (n + 1) (by omega), (Below.refl _ _).alloc (Nat.le_refl _) _⟩
  case round =>
    obtain ⟨s, c, rfl, rfl, hc1, hs1, hP, hO, hB⟩ := hrel
    obtain ⟨ao, co, rfl⟩ := owns_ex hO.out
    by_cases hA : s.length < n
    · obtain ⟨x, hx⟩ : ∃ x, (limbs a)[s.length]? = some x := ⟨_, List.getElem?_eq_getElem (by rw [HA.out]; exact hA)⟩
      obtain ⟨g, og, rfl, hg, hc⟩ := H3.out _ x hx
      have hc' := (hB.out.cell (p := ⟨g, og + s.length, none⟩) hg).trans hc
      have hxl := (sm_limbs a).get hx
      have HX := hid hx; clear hx hc
      have HN := hid (hP.out.next (by rw [HA.out]; exact .inl hA))
      by_cases hB' : s.length < m
      · obtain ⟨y, hy⟩ : ∃ y, (limbs b)[s.length]? = some y := ⟨_, List.getElem?_eq_getElem (by rw [HB.out]; exact hB')⟩
        obtain ⟨g', og', rfl, hg', hd⟩ := K3.out _ y hy
        have hd' := (hB.out.cell (p := ⟨g', og' + s.length, none⟩) hg').trans hd
        have hyl := (sm_limbs b).get hy
        rw [getD_of HX.out, getD_of hy] at HN
        clear hy hd
        go_wp2_with (at_builtin; refine wpList_append_own _ rfl _ _ 120 rfl w.heap.size 124 i0 (.int .u64 0) 1 8 Tryz.underlying120 hi hz0 hz1 hz2 rfl (by decide) _ s.length _ rfl (hO.out.alloc _) ⟨wr.heap.size, 0, none⟩ 1 1 [.int .u64 (((x : Int) + (c : Int) + (y : Int)) % 1000000000)] rfl rfl (cell_one_new wr (.int .u64 (((x : Int) + (c : Int) + (y : Int)) % 1000000000)) 124) (by simp [Value.oneCell']) (by unfold maxLen; omega) (by omega) (by have := hB.out.size; simp; omega) ?_; intro v' w3 hown3 hgrow3 _; have HO3 := hid hown3; have HG3 := hid hgrow3; clear hown3 hgrow3)
        have hz : (((x : Int) + (c : Int) + (y : Int)) % 1000000000) = (((x + c + y) % 1000000000 : Nat) : Int) := by omega
        rw [hz] at HO3
        obtain ⟨n1, n2⟩ := own_next hO.out hB.out HO3.out HG3.out
        have N1 := hid n1; have N2 := hid n2; clear n1 n2 hz HO3 HG3
        obtain ⟨a3, k3, rfl⟩ := owns_ex N1.out
        go_wp2_with fail
        go_roundw
        case rel => exact ⟨s ++ [(x + c + y) % 1000000000], (x + c + y) / 1000000000, by simp, by go_num, HN.out.c1, by simp <;> omega, HN, N1, N2⟩
        case measure => simp [intOf] <;> omega
      · rw [getD_of HX.out, getD_none (by rw [HB.out]; omega)] at HN
        go_wp2_with (at_builtin; refine wpList_append_own _ rfl _ _ 120 rfl w.heap.size 124 i0 (.int .u64 0) 1 8 Tryz.underlying120 hi hz0 hz1 hz2 rfl (by decide) _ s.length _ rfl (hO.out.alloc _) ⟨wr.heap.size, 0, none⟩ 1 1 [.int .u64 (((x : Int) + (c : Int)) % 1000000000)] rfl rfl (cell_one_new wr (.int .u64 (((x : Int) + (c : Int)) % 1000000000)) 124) (by simp [Value.oneCell']) (by unfold maxLen; omega) (by omega) (by have := hB.out.size; simp; omega) ?_; intro v' w3 hown3 hgrow3 _; have HO3 := hid hown3; have HG3 := hid hgrow3; clear hown3 hgrow3)
        have hz : (((x : Int) + (c : Int)) % 1000000000) = (((x + c + 0) % 1000000000 : Nat) : Int) := by omega
        rw [hz] at HO3
        obtain ⟨n1, n2⟩ := own_next hO.out hB.out HO3.out HG3.out
        have N1 := hid n1; have N2 := hid n2; clear n1 n2 hz HO3 HG3
        obtain ⟨a3, k3, rfl⟩ := owns_ex N1.out
        go_wp2_with fail
        go_roundw
        case rel => exact ⟨s ++ [(x + c + 0) % 1000000000], (x + c + 0) / 1000000000, by simp, by go_num, HN.out.c1, by simp <;> omega, HN, N1, N2⟩
        case measure => simp [intOf] <;> omega
    · obtain rfl : s.length = n := by omega
      rcases (show c = 0 ∨ c = 1 by omega) with rfl | rfl
      · have hs := hid (hP.out.done (by rw [HA.out]; exact hA) (by rw [HB.out]; omega) rfl)
        go_wp2_with fail
        go_ret
        exact ⟨⟨_, rfl, owns_isN hO.out (by rw [hs.out])⟩, hB.out⟩
      · have HN := hid (hP.out.next (by exact .inr (.inr (by omega))))
        rw [getD_none (by rw [HA.out]; omega), getD_none (by rw [HB.out]; omega)] at HN
        have HD := hid (HN.out.done (by simp [HA.out]) (by simp [HB.out]; omega) rfl)
        go_wp2_with (at_builtin; refine wpList_append_own _ rfl _ _ 120 rfl w.heap.size 124 i0 (.int .u64 0) 1 8 Tryz.underlying120 hi hz0 hz1 hz2 rfl (by decide) _ s.length _ rfl (hO.out.alloc _) ⟨wr.heap.size, 0, none⟩ 1 1 [.int .u64 (1)] rfl rfl (cell_one_new wr (.int .u64 (1)) 124) (by simp [Value.oneCell']) (by unfold maxLen; omega) (by omega) (by have := hB.out.size; simp; omega) ?_; intro v' w3 hown3 hgrow3 _; have HO3 := hid hown3; have HG3 := hid hgrow3; clear hown3 hgrow3)
        have hz : (1) = (((0 + 1 + 0) % 1000000000 : Nat) : Int) := by omega
        rw [hz] at HO3
        obtain ⟨n1, n2⟩ := own_next hO.out hB.out HO3.out HG3.out
        have N1 := hid n1; have N2 := hid n2; clear n1 n2 hz HO3 HG3
        obtain ⟨a3, k3, rfl⟩ := owns_ex N1.out
        go_wp2_with fail
        go_ret
        exact ⟨⟨_, rfl, owns_isN N1.out (by rw [HD.out])⟩, N2.out⟩
set_option maxHeartbeats 4000000 in
theorem l_Add_lt (w : World) (v u : Value) (a b : Nat) (ha : IsN .u64 w v a) (hb : IsN .u64 w u b) (hle : (limbs a).length < (limbs b).length) (hla : (limbs a).length ≤ 1000000) (hlb : (limbs b).length ≤ 1000000) :
    Calls Tryz.prog 167 #[v, u] w fun e w' => RetN .u64 (a + b) e w' ∧ Below w.heap.size w w' := by
  obtain ⟨i0, hi, hz0, hz1, hz2⟩ := info_parts info_u64
  obtain ⟨a1, c1, rfl, h1, h2, h3⟩ := hb.openI
  obtain ⟨a2, c2, rfl, k1, k2, k3⟩ := ha.openI
  have H3 := hid h3; have K3 := hid k3; clear h3 k3 ha hb
  obtain ⟨n, ea⟩ : ∃ n, (limbs b).length = n := ⟨_, rfl⟩
  obtain ⟨m, eb⟩ : ∃ m, (limbs a).length = m := ⟨_, rfl⟩
  rw [ea] at h1 hlb hle ⊢
  rw [eb] at k1 hla hle ⊢
  have HA := hid ea; have HB := hid eb
  clear ea eb
  have q0 : decide (m < n) = true := by simp; omega
  have hmk : ∀ W : World, (Instr.makeSlice 120 (.int .i64 0) (.int .i64 ((n : Int) + 1))).run Tryz.prog W = .ok (.slice (some ⟨W.heap.size, 0, none⟩) 0 (n + 1)) (W.alloc (.cells (madeCells #[.int .u64 0] (n + 1)) 124)) := fun W => by
    have := room_nat (n + 1) (by omega) W
    rwa [Int.natCast_add] at this
  have hmn : m ≤ n := by omega
  clear hle
  go_enter Tryz.func167, Tryz.ntmps167
  go_wp2_with fail
  clear hmk q0
  go_loopw [5, 6, 7, 8, 22] (fun o cc jj nn ii wr => ∃ (s : List Nat) (c : Nat), ii = .int .i64 s.length ∧ cc = .int .u64 c ∧ c ≤ 1 ∧ s.length ≤ n ∧ Hid (PlusI b a s c) ∧ Hid (wr.ownsRow w.heap.size 124 1 o s.length (ints .u64 s)) ∧ Hid (Below w.heap.size w wr))
    (fun _ _ _ _ ii _ => n - (intOf ii).toNat)
  case atStart => exact ⟨[], 0, rfl, rfl, by omega, by simp, PlusI.start b a, owns_room w (n + 1) (by omega), (Below.refl _ _).alloc (Nat.le_refl _) _⟩
  case round =>
    obtain ⟨s, c, rfl, rfl, hc1, hs1, hP, hO, hB⟩ := hrel
    obtain ⟨ao, co, rfl⟩ := owns_ex hO.out
    by_cases hA : s.length < n
    · obtain ⟨x, hx⟩ : ∃ x, (limbs b)[s.length]? = some x := ⟨_, List.getElem?_eq_getElem (by rw [HA.out]; exact hA)⟩
      obtain ⟨g, og, rfl, hg, hc⟩ := H3.out _ x hx
      have hc' := (hB.out.cell (p := ⟨g, og + s.length, none⟩) hg).trans hc
      have hxl := (sm_limbs b).get hx
      have HX := hid hx; clear hx hc
      have HN := hid (hP.out.next (by rw [HA.out]; exact .inl hA))
      by_cases hB' : s.length < m
      · obtain ⟨y, hy⟩ : ∃ y, (limbs a)[s.length]? = some y := ⟨_, List.getElem?_eq_getElem (by rw [HB.out]; exact hB')⟩
        obtain ⟨g', og', rfl, hg', hd⟩ := K3.out _ y hy
        have hd' := (hB.out.cell (p := ⟨g', og' + s.length, none⟩) hg').trans hd
        have hyl := (sm_limbs a).get hy
        rw [getD_of HX.out, getD_of hy] at HN
        clear hy hd
        go_wp2_with (at_builtin; refine wpList_append_own _ rfl _ _ 120 rfl w.heap.size 124 i0 (.int .u64 0) 1 8 Tryz.underlying120 hi hz0 hz1 hz2 rfl (by decide) _ s.length _ rfl (hO.out.alloc _) ⟨wr.heap.size, 0, none⟩ 1 1 [.int .u64 (((x : Int) + (c : Int) + (y : Int)) % 1000000000)] rfl rfl (cell_one_new wr (.int .u64 (((x : Int) + (c : Int) + (y : Int)) % 1000000000)) 124) (by simp [Value.oneCell']) (by unfold maxLen; omega) (by omega) (by have := hB.out.size; simp; omega) ?_; intro v' w3 hown3 hgrow3 _; have HO3 := hid hown3; have HG3 := hid hgrow3; clear hown3 hgrow3)
        have hz : (((x : Int) + (c : Int) + (y : Int)) % 1000000000) = (((x + c + y) % 1000000000 : Nat) : Int) := by omega
        rw [hz] at HO3
        obtain ⟨n1, n2⟩ := own_next hO.out hB.out HO3.out HG3.out
        have N1 := hid n1; have N2 := hid n2; clear n1 n2 hz HO3 HG3
        obtain ⟨a3, k3, rfl⟩ := owns_ex N1.out
        go_wp2_with fail
        go_roundw
        case rel => exact ⟨s ++ [(x + c + y) % 1000000000], (x + c + y) / 1000000000, by simp, by go_num, HN.out.c1, by simp <;> omega, HN, N1, N2⟩
        case measure => simp [intOf] <;> omega
      · rw [getD_of HX.out, getD_none (by rw [HB.out]; omega)] at HN
        go_wp2_with (at_builtin; refine wpList_append_own _ rfl _ _ 120 rfl w.heap.size 124 i0 (.int .u64 0) 1 8 Tryz.underlying120 hi hz0 hz1 hz2 rfl (by decide) _ s.length _ rfl (hO.out.alloc _) ⟨wr.heap.size, 0, none⟩ 1 1 [.int .u64 (((x : Int) + (c : Int)) % 1000000000)] rfl rfl (cell_one_new wr (.int .u64 (((x : Int) + (c : Int)) % 1000000000)) 124) (by simp [Value.oneCell']) (by unfold maxLen; omega) (by omega) (by have := hB.out.size; simp; omega) ?_; intro v' w3 hown3 hgrow3 _; have HO3 := hid hown3; have HG3 := hid hgrow3; clear hown3 hgrow3)
        have hz : (((x : Int) + (c : Int)) % 1000000000) = (((x + c + 0) % 1000000000 : Nat) : Int) := by omega
        rw [hz] at HO3
        obtain ⟨n1, n2⟩ := own_next hO.out hB.out HO3.out HG3.out
        have N1 := hid n1; have N2 := hid n2; clear n1 n2 hz HO3 HG3
        obtain ⟨a3, k3, rfl⟩ := owns_ex N1.out
        go_wp2_with fail
        go_roundw
        case rel => exact ⟨s ++ [(x + c + 0) % 1000000000], (x + c + 0) / 1000000000, by simp, by go_num, HN.out.c1, by simp <;> omega, HN, N1, N2⟩
        case measure => simp [intOf] <;> omega
    · obtain rfl : s.length = n := by omega
      rcases (show c = 0 ∨ c = 1 by omega) with rfl | rfl
      · have hs := hid (hP.out.done (by rw [HA.out]; exact hA) (by rw [HB.out]; omega) rfl)
        go_wp2_with fail
        go_ret
        exact ⟨⟨_, rfl, owns_isN hO.out (by rw [hs.out, Nat.add_comm])⟩, hB.out⟩
      · have HN := hid (hP.out.next (by exact .inr (.inr (by omega))))
        rw [getD_none (by rw [HA.out]; omega), getD_none (by rw [HB.out]; omega)] at HN
        have HD := hid (HN.out.done (by simp [HA.out]) (by simp [HB.out]; omega) rfl)
        go_wp2_with (at_builtin; refine wpList_append_own _ rfl _ _ 120 rfl w.heap.size 124 i0 (.int .u64 0) 1 8 Tryz.underlying120 hi hz0 hz1 hz2 rfl (by decide) _ s.length _ rfl (hO.out.alloc _) ⟨wr.heap.size, 0, none⟩ 1 1 [.int .u64 (1)] rfl rfl (cell_one_new wr (.int .u64 (1)) 124) (by simp [Value.oneCell']) (by unfold maxLen; omega) (by omega) (by have := hB.out.size; simp; omega) ?_; intro v' w3 hown3 hgrow3 _; have HO3 := hid hown3; have HG3 := hid hgrow3; clear hown3 hgrow3)
        have hz : (1) = (((0 + 1 + 0) % 1000000000 : Nat) : Int) := by omega
        rw [hz] at HO3
        obtain ⟨n1, n2⟩ := own_next hO.out hB.out HO3.out HG3.out
        have N1 := hid n1; have N2 := hid n2; clear n1 n2 hz HO3 HG3
        obtain ⟨a3, k3, rfl⟩ := owns_ex N1.out
        go_wp2_with fail
        go_ret
        exact ⟨⟨_, rfl, owns_isN N1.out (by rw [HD.out, Nat.add_comm])⟩, N2.out⟩
/-- A sum. -/
theorem l_Add (w : World) (v u : Value) (a b : Nat) (ha : IsN .u64 w v a) (hb : IsN .u64 w u b) (hla : (limbs a).length ≤ 1000000) (hlb : (limbs b).length ≤ 1000000) :
    Calls Tryz.prog 167 #[v, u] w fun e w' => RetN .u64 (a + b) e w' ∧ Below w.heap.size w w' := by
  by_cases h : (limbs b).length ≤ (limbs a).length
  · exact l_Add_ge w v u a b ha hb h hla hlb
  · exact l_Add_lt w v u a b ha hb (by omega) hla hlb
end Go.Proofs.YtpehhgkghgbhiaaGreatDoor
namespace Go.Proofs.YtpehhgkghgbhiaaGreatDoor
open Go.RowKit
set_option linter.unusedVariables false
/-- What the loop of the difference holds where it writes into an array: the limbs s have been written. -/
structure SubA (a b i c : Nat) (o : List Nat) : Prop where
  len : o.length = (limbs a).length
  inv : MinusI a b (o.take i) c
theorem SubA.start (a b : Nat) : SubA a b 0 0 (List.replicate (limbs a).length 0) := ⟨by simp, by rw [List.take_zero]; exact MinusI.start a b⟩
theorem SubA.next {a b i c z c' : Nat} {o : List Nat} (h : SubA a b i c o) (hi : i < (limbs a).length) (hz : (limbs a).getD i 0 + 1000000000 * c' = z + c + (limbs b).getD i 0) (h1 : z < 1000000000) (h2 : c' ≤ 1) : SubA a b (i + 1) c' (o.set i z) := by
  have hl : i < o.length := by rw [h.len]; exact hi
  have hti : (o.take i).length = i := List.length_take_of_le (by omega)
  refine ⟨by rw [List.length_set, h.len], ?_⟩
  have := h.inv.next (z := z) (c' := c') (by rw [hti]; exact hz) h1 h2
  rwa [show (o.set i z).take (i + 1) = o.take i ++ [z] from ?_]
  rw [List.take_succ_eq_append_getElem (by simpa using hl), List.take_set_of_le (Nat.le_refl _)]
  simp
theorem SubA.done {a b c : Nat} {o : List Nat} (h : SubA a b (limbs a).length c o) (hle : b ≤ a) : val o = a - b ∧ Sm o := by
  have ht : o.take (limbs a).length = o := List.take_of_length_le (by rw [h.len]; exact Nat.le_refl _)
  have hi := h.inv
  rw [ht] at hi
  exact ⟨hi.done h.len hle, hi.sm⟩
set_option maxRecDepth 100000 in
set_option maxHeartbeats 4000000 in
theorem l_Sub (w : World) (v u : Value) (a b : Nat) (ha : IsN .u64 w v a) (hb : IsN .u64 w u b) (hle : b ≤ a) (hla : (limbs a).length ≤ 1000000) :
    Calls Tryz.prog 192 #[v, u] w fun e w' => RetN .u64 (a - b) e w' ∧ Below w.heap.size w w' := by
  obtain ⟨a1, c1, rfl, h1, h2, h3⟩ := ha.openI
  obtain ⟨a2, c2, rfl, k1, k2, k3⟩ := hb.openI
  have H3 := hid h3; have K3 := hid k3; clear h3 k3 ha hb
  have hmn := limbs_length_mono hle
  obtain ⟨n, ea⟩ : ∃ n, (limbs a).length = n := ⟨_, rfl⟩
  obtain ⟨m, eb⟩ : ∃ m, (limbs b).length = m := ⟨_, rfl⟩
  rw [ea] at h1 hla hmn ⊢
  rw [eb] at k1 hmn ⊢
  have HA := hid ea; have HB := hid eb; have HL := hid hle
  clear ea eb hle
  have hmk := fun W => make_nat n (by omega) W
  go_enter Tryz.func192, Tryz.ntmps192
  go_wp2_with fail
  clear hmk
  go_loopw [6, 7, 8, 9, 15] (fun cc s7 s8 s9 ii wr => ∃ (i c : Nat) (o : List Nat), ii = .int .i64 i ∧ cc = .int .u64 c ∧ c ≤ 1 ∧ i ≤ n ∧ Hid (SubA a b i c o) ∧ Hid (Arr .u64 124 wr w.heap.size o) ∧ Hid (Below w.heap.size w wr))
    (fun _ _ _ _ ii _ => n - (intOf ii).toNat)
  case atStart => exact ⟨0, 0, _, rfl, rfl, by omega, by omega, SubA.start a b, by rw [HA.out]; exact Arr.made w .u64 124 n, (Below.refl _ _).alloc (Nat.le_refl _) _⟩
  case round =>
    obtain ⟨i, c, o, rfl, rfl, hc1, hin, hS, hO, hB⟩ := hrel
    have hol := hid (show o.length = n from by rw [hS.out.len, HA.out])
    by_cases hA : i < n
    · obtain ⟨x, hx⟩ : ∃ x, (limbs a)[i]? = some x := ⟨_, List.getElem?_eq_getElem (by rw [HA.out]; exact hA)⟩
      obtain ⟨g, og, rfl, hg, hc⟩ := H3.out _ x hx
      have hc' := (hB.out.cell (p := ⟨g, og + i, none⟩) hg).trans hc
      have hxl := (sm_limbs a).get hx
      have HX := hid hx; clear hx hc
      obtain ⟨z0, hz0⟩ : ∃ z, o[i]? = some z := ⟨_, List.getElem?_eq_getElem (by rw [hol.out]; exact hA)⟩
      have d3 := hO.out.cell hz0
      have d4 := hO.out.free i
      clear hz0
      by_cases hB' : i < m
      · obtain ⟨y, hy⟩ : ∃ y, (limbs b)[i]? = some y := ⟨_, List.getElem?_eq_getElem (by rw [HB.out]; exact hB')⟩
        obtain ⟨g', og', rfl, hg', hd⟩ := K3.out _ y hy
        have hd' := (hB.out.cell (p := ⟨g', og' + i, none⟩) hg').trans hd
        have hyl := (sm_limbs b).get hy
        have HY := hid hy; clear hy hd
        by_cases hneg : x < c + y
        · have q1 : decide ((x : Int) < (c : Int) + (y : Int)) = true := by simp; omega
          have HN := hid (hS.out.next (z := x + 1000000000 - (c + y)) (c' := 1) (by rw [HA.out]; exact hA) (by rw [getD_of HX.out, getD_of HY.out]; omega) (by omega) (by omega))
          go_wp2_with fail
          go_roundw
          case rel =>
            have hz : ((x : Int) + 1000000000 - ((c : Int) + y)) = ((x + 1000000000 - (c + y) : Nat) : Int) := by omega
            exact ⟨i + 1, 1, _, by go_num, rfl, by omega, by omega, HN, by rw [hz]; exact hO.out.set i _, below_set hB.out (Nat.le_refl _) _⟩
          case measure => simp [intOf] <;> omega
        · have q1 : decide ((x : Int) < (c : Int) + (y : Int)) = false := by simp; omega
          have HN := hid (hS.out.next (z := x - (c + y)) (c' := 0) (by rw [HA.out]; exact hA) (by rw [getD_of HX.out, getD_of HY.out]; omega) (by omega) (by omega))
          go_wp2_with fail
          go_roundw
          case rel =>
            have hz : ((x : Int) - ((c : Int) + y)) = ((x - (c + y) : Nat) : Int) := by omega
            exact ⟨i + 1, 0, _, by go_num, rfl, by omega, by omega, HN, by rw [hz]; exact hO.out.set i _, below_set hB.out (Nat.le_refl _) _⟩
          case measure => simp [intOf] <;> omega
      · by_cases hneg : x < c
        · have q1 : decide ((x : Int) < (c : Int)) = true := by simp; omega
          have HN := hid (hS.out.next (z := x + 1000000000 - c) (c' := 1) (by rw [HA.out]; exact hA) (by rw [getD_of HX.out, getD_none (by rw [HB.out]; omega)]; omega) (by omega) (by omega))
          go_wp2_with fail
          go_roundw
          case rel =>
            have hz : ((x : Int) + 1000000000 - (c : Int)) = ((x + 1000000000 - c : Nat) : Int) := by omega
            exact ⟨i + 1, 1, _, by go_num, rfl, by omega, by omega, HN, by rw [hz]; exact hO.out.set i _, below_set hB.out (Nat.le_refl _) _⟩
          case measure => simp [intOf] <;> omega
        · have q1 : decide ((x : Int) < (c : Int)) = false := by simp; omega
          have HN := hid (hS.out.next (z := x - c) (c' := 0) (by rw [HA.out]; exact hA) (by rw [getD_of HX.out, getD_none (by rw [HB.out]; omega)]; omega) (by omega) (by omega))
          go_wp2_with fail
          go_roundw
          case rel =>
            have hz : ((x : Int) - (c : Int)) = ((x - c : Nat) : Int) := by omega
            exact ⟨i + 1, 0, _, by go_num, rfl, by omega, by omega, HN, by rw [hz]; exact hO.out.set i _, below_set hB.out (Nat.le_refl _) _⟩
          case measure => simp [intOf] <;> omega
    · obtain rfl : i = n := by omega
      have hv := hid (show val o = a - b ∧ Sm o from SubA.done (by have := hS.out; rw [← HA.out] at this; exact this) HL.out)
      have hr := hid (show Row wr (.slice (some ⟨w.heap.size, 0, none⟩) i i) (ints .u64 o) from by
        have := hO.out.row (n := i) (c := i) (by rw [hol.out]; exact Nat.le_refl _) (Nat.le_refl _) (by unfold maxLen; omega)
        rwa [List.take_of_length_le (by rw [hol.out]; exact Nat.le_refl _)] at this)
      go_wp2_with (go_at_call 137; refine (l_trim _ _ o hv.out.2 hr.out).mono ?_; rintro e w1 ⟨⟨v1, rfl, hv1⟩, rfl⟩)
      go_ret
      exact ⟨⟨v1, rfl, by rw [← hv.out.1]; exact hv1⟩, hB.out⟩
end Go.Proofs.YtpehhgkghgbhiaaGreatDoor
namespace Go.Proofs.YtpehhgkghgbhiaaGreatDoor
open Go.RowKit Go.Shelf
open Go.Lib (decDigits nDigits)
set_option linter.unusedVariables false
/-- The text and the error of an operation on two texts that gives R with the error x. -/
def pairB (R : ByteArray) (s t : ByteArray) : ByteArray := if errN s.data.toList = 0 ∧ errN t.data.toList = 0 then R else ⟨#[]⟩
def pairE (x : Int) (s t : ByteArray) : Int := if errN s.data.toList = 0 then (if errN t.data.toList = 0 then x else errN t.data.toList) else errN s.data.toList
theorem errN_dig {s : ByteArray} (h : errN s.data.toList = 0) : allDig s.data.toList ∧ s.size ≤ 4000 ∧ (limbs (bN s)).length ≤ 1000 := by
  obtain ⟨n, hn, h4⟩ := errN_zero.1 h
  have hd : allDig s.data.toList := by rw [hn]; exact allDig_dec n
  have hs : s.size ≤ 4000 := by
    have e : s.data.toList.length = s.size := Array.length_toList
    rw [← e, hn, Lib.decDigits_length]; exact h4
  refine ⟨hd, hs, ?_⟩
  have e : s.data.toList.length = s.size := Array.length_toList
  exact dv_limbs hd (by omega)
set_option maxRecDepth 100000 in
set_option maxHeartbeats 1000000 in
theorem n_pair (w : World) (s t : ByteArray) (F : Nat) (R : ByteArray) (x : Int) (hs : s.size ≤ 1000000) (ht : t.size ≤ 1000000) (hL : Lay w)
    (hen : ∀ args w, (callFunc F args).run Tryz.prog w = .ok (.enter F args) w)
    (hF : ∀ W v u, errN s.data.toList = 0 → errN t.data.toList = 0 → IsN .u64 W v (bN s) → IsN .u64 W u (bN t) → Lay W → Calls Tryz.prog F #[v, u] W fun e w' => e = .returned (.tuple #[.string R, .int .i64 x]) ∧ Below W.heap.size W w') :
    Calls Tryz.prog 107 #[.string s, .string t, .func (.func F) #[] #[]] w fun e w' => e = .returned (.tuple #[.string (pairB R s t), .int .i64 (pairE x s t)]) ∧ Below w.heap.size w w' := by
  have HS := fun W => hid (n_Check W s (by omega))
  have HT := fun W => hid (n_Check W t (by omega))
  have HL := hid hL
  have HF := hid hF
  clear hL hF
  by_cases h1 : errN s.data.toList = 0
  · by_cases h2 : errN t.data.toList = 0
    · have e1 : pairB R s t = R := if_pos ⟨h1, h2⟩
      have e2 : pairE x s t = x := by rw [pairE, if_pos h1, if_pos h2]
      rw [e1, e2]
      rw [h1] at HS
      rw [h2] at HT
      obtain ⟨d1, d2, -⟩ := errN_dig h1
      obtain ⟨d3, d4, -⟩ := errN_dig h2
      have P1 := fun W => hid (l_Parse W s d1 (by omega))
      have P2 := fun W => hid (l_Parse W t d3 (by omega))
      have H1 := hid h1; have H2 := hid h2
      have fe : firstE 0 0 = 0 := rfl
      clear h1 h2 d1 d2 d3 d4 e1 e2
      go_enter Tryz.func107, Tryz.ntmps107
      go_wp2_with fail
      refine (HS _).out.mono ?_; rintro e w1 ⟨rfl, hb1⟩
      have y1 := hid hb1; clear hb1
      go_wp2_with fail
      refine (HT _).out.mono ?_; rintro e w2 ⟨rfl, hb2⟩
      have y2 := hid (bnext y1.out hb2); clear hb2
      go_wp2_with fail
      refine (n_first _ _ 0 0 ?_ ?_).mono ?_
      · exact (Blk.new _ _ _).cell 0
      · exact (Blk.new _ _ _).cell 1
      rintro e w3 ⟨rfl, rfl⟩
      have y3 := hid (y2.out.alloc y2.out.size (.cells #[.int .i64 0, .int .i64 0] 28))
      rw [fe]
      go_wp2_with fail
      refine (P1 _).out.mono ?_; rintro e w4 ⟨⟨v4, rfl, hv4⟩, hb4⟩
      have y4 := hid (bnext y3.out hb4); have N4 := hid hv4; clear hb4 hv4
      go_wp2_with fail
      refine (P2 _).out.mono ?_; rintro e w5 ⟨⟨v5, rfl, hv5⟩, hb5⟩
      have y5 := hid (bnext y4.out hb5); have N5 := hid (N4.out.call hb5); have D5 := hid hv5; clear hb5 hv5
      go_wp2_with fail
      refine (HF.out _ _ _ H1.out H2.out N5.out D5.out (HL.out.call y5.out)).mono ?_; rintro e w6 ⟨rfl, hb6⟩
      have y6 := hid (bnext y5.out hb6); clear hb6
      go_wp2_with fail
      go_ret2
      exact ⟨rfl, y6.out⟩
    · have e1 : pairB R s t = ⟨#[]⟩ := if_neg (fun h => h2 h.2)
      have e2 : pairE x s t = errN t.data.toList := by rw [pairE, if_pos h1, if_neg h2]
      rw [e1, e2]
      rw [h1] at HS
      obtain ⟨y, hy⟩ : ∃ y, errN t.data.toList = y := ⟨_, rfl⟩
      rw [hy] at HT ⊢ h2
      have fe : firstE 0 y = y := rfl
      have q0 : (y == 0) = false := by simpa using h2
      have q1 : (y != 0) = true := by simpa using h2
      clear h1 e1 e2 hy
      go_enter Tryz.func107, Tryz.ntmps107
      go_wp2_with fail
      refine (HS _).out.mono ?_; rintro e w1 ⟨rfl, hb1⟩
      have y1 := hid hb1; clear hb1
      go_wp2_with fail
      refine (HT _).out.mono ?_; rintro e w2 ⟨rfl, hb2⟩
      have y2 := hid (bnext y1.out hb2); clear hb2
      go_wp2_with fail
      refine (n_first _ _ 0 y ?_ ?_).mono ?_
      · exact (Blk.new _ _ _).cell 0
      · exact (Blk.new _ _ _).cell 1
      rintro e w3 ⟨rfl, rfl⟩
      have y3 := hid (y2.out.alloc y2.out.size (.cells #[.int .i64 0, .int .i64 y] 28))
      rw [fe]
      go_wp2_with fail
      go_ret2
      exact ⟨rfl, y3.out⟩
  · have e1 : pairB R s t = ⟨#[]⟩ := if_neg (fun h => h1 h.1)
    have e2 : pairE x s t = errN s.data.toList := by rw [pairE, if_neg h1]
    rw [e1, e2]
    obtain ⟨y, hy⟩ : ∃ y, errN s.data.toList = y := ⟨_, rfl⟩
    obtain ⟨z, hz⟩ : ∃ z, errN t.data.toList = z := ⟨_, rfl⟩
    rw [hy] at HS ⊢ h1
    rw [hz] at HT
    have fe : firstE y z = y := if_neg h1
    have q0 : (y == 0) = false := by simpa using h1
    have q1 : (y != 0) = true := by simpa using h1
    clear e1 e2 hy hz
    go_enter Tryz.func107, Tryz.ntmps107
    go_wp2_with fail
    refine (HS _).out.mono ?_; rintro e w1 ⟨rfl, hb1⟩
    have y1 := hid hb1; clear hb1
    go_wp2_with fail
    refine (HT _).out.mono ?_; rintro e w2 ⟨rfl, hb2⟩
    have y2 := hid (bnext y1.out hb2); clear hb2
    go_wp2_with fail
    refine (n_first _ _ y z ?_ ?_).mono ?_
    · exact (Blk.new _ _ _).cell 0
    · exact (Blk.new _ _ _).cell 1
    rintro e w3 ⟨rfl, rfl⟩
    have y3 := hid (y2.out.alloc y2.out.size (.cells #[.int .i64 y, .int .i64 z] 28))
    rw [fe]
    go_wp2_with fail
    go_ret2
    exact ⟨rfl, y3.out⟩
end Go.Proofs.YtpehhgkghgbhiaaGreatDoor
namespace Go.Proofs.YtpehhgkghgbhiaaGreatDoor
open Go.RowKit Go.Shelf
open Go.Lib (decDigits nDigits)
set_option linter.unusedVariables false
/-- An operation on two texts: the text, the error. -/
def natB (f : Nat → Nat → Nat) (s t : ByteArray) : ByteArray := pairB (resB (f (bN s) (bN t))) s t
def natE (f : Nat → Nat → Nat) (s t : ByteArray) : Int := pairE (resE (f (bN s) (bN t))) s t
theorem len_add {a b k l : Nat} (ha : (limbs a).length ≤ k) (hb : (limbs b).length ≤ l) : (limbs (a + b)).length ≤ k + l + 1 := by
  have h1 := limbs_length_le.1 ha
  have h2 := limbs_length_le.1 hb
  refine limbs_length_le.2 ?_
  have h3 : 1000000000 ^ k ≤ 1000000000 ^ (k + l) := Nat.pow_le_pow_right (by omega) (by omega)
  have h4 : 1000000000 ^ l ≤ 1000000000 ^ (k + l) := Nat.pow_le_pow_right (by omega) (by omega)
  rw [Nat.pow_succ]
  omega
theorem len_mul {a b k l : Nat} (ha : (limbs a).length ≤ k) (hb : (limbs b).length ≤ l) : (limbs (a * b)).length ≤ k + l := by
  have h1 := limbs_length_le.1 ha
  have h2 := limbs_length_le.1 hb
  refine limbs_length_le.2 ?_
  rw [Nat.pow_add]
  exact Nat.mul_lt_mul'' h1 h2
theorem len_sub {a b k l : Nat} (ha : (limbs a).length ≤ k) (hb : (limbs b).length ≤ l) : (limbs (a - b)).length ≤ k :=
  Nat.le_trans (limbs_length_mono (Nat.sub_le a b)) ha
set_option maxRecDepth 100000 in
set_option maxHeartbeats 1000000 in
theorem n_Add1 (w : World) (v u : Value) (a b : Nat) (ha : IsN .u64 w v a) (hb : IsN .u64 w u b) (hla : (limbs a).length ≤ 1000) (hlb : (limbs b).length ≤ 1000) (hL : Lay w) :
    Calls Tryz.prog 166 #[v, u] w fun e w' => e = .returned (.tuple #[.string (resB (a + b)), .int .i64 (resE (a + b))]) ∧ Below w.heap.size w w' := by
  have HA := hid ha; have HB := hid hb; have HL := hid hL
  have LA := hid hla; have LB := hid hlb
  have LS := hid (len_add hla hlb)
  obtain ⟨a1, c1, rfl, _⟩ := ha.openI
  obtain ⟨a2, c2, rfl, _⟩ := hb.openI
  clear ha hb hL hla hlb
  go_enter Tryz.func166, Tryz.ntmps166
  go_wp2_with fail
  refine (l_Add _ _ _ a b HA.out HB.out (by have := LA.out; omega) (by have := LB.out; omega)).mono ?_
  rintro e w1 ⟨⟨v1, rfl, hv1⟩, hb1⟩
  have y1 := hid hb1; have V1 := hid hv1; clear hb1 hv1
  obtain ⟨a3, c3, rfl, _⟩ := V1.out.openI
  go_wp2_with fail
  refine (n_result _ _ _ V1.out (by have := LS.out; omega) (HL.out.call y1.out)).mono ?_
  rintro e w2 ⟨rfl, hb2⟩
  have y2 := hid (bnext y1.out hb2); clear hb2
  go_wp2_with fail
  go_ret2
  exact ⟨rfl, y2.out⟩
set_option maxRecDepth 100000 in
set_option maxHeartbeats 1000000 in
theorem n_Add (w : World) (s t : ByteArray) (hs : s.size ≤ 1000000) (ht : t.size ≤ 1000000) (hL : Lay w) :
    Calls Tryz.prog 131 #[.string s, .string t] w fun e w' => e = .returned (.tuple #[.string (natB ((· + ·)) s t), .int .i64 (natE ((· + ·)) s t)]) ∧ Below w.heap.size w w' := by
  have P := hid (n_pair w s t 166 (resB (((· + ·)) (bN s) (bN t))) (resE (((· + ·)) (bN s) (bN t))) hs ht hL (enters_of Tryz.func166 (by kernel_rfl) rfl)
    (fun W v u h1 h2 hv hu hLW => n_Add1 W v u _ _ hv hu (errN_dig h1).2.2 (errN_dig h2).2.2 hLW))
  go_enter Tryz.func131, Tryz.ntmps131
  go_wp2_with fail
  refine P.out.mono ?_
  rintro e w1 ⟨rfl, hb1⟩
  go_wp2_with fail
  go_ret2
  exact ⟨rfl, hb1⟩
set_option maxRecDepth 100000 in
set_option maxHeartbeats 1000000 in
theorem n_Mul1 (w : World) (v u : Value) (a b : Nat) (ha : IsN .u64 w v a) (hb : IsN .u64 w u b) (hla : (limbs a).length ≤ 1000) (hlb : (limbs b).length ≤ 1000) (hL : Lay w) :
    Calls Tryz.prog 108 #[v, u] w fun e w' => e = .returned (.tuple #[.string (resB (a * b)), .int .i64 (resE (a * b))]) ∧ Below w.heap.size w w' := by
  have HA := hid ha; have HB := hid hb; have HL := hid hL
  have LA := hid hla; have LB := hid hlb
  have LS := hid (len_mul hla hlb)
  obtain ⟨a1, c1, rfl, _⟩ := ha.openI
  obtain ⟨a2, c2, rfl, _⟩ := hb.openI
  clear ha hb hL hla hlb
  go_enter Tryz.func108, Tryz.ntmps108
  go_wp2_with fail
  refine (l_Mul _ _ _ a b HA.out HB.out (by have := LA.out; omega) (by have := LB.out; omega)).mono ?_
  rintro e w1 ⟨⟨v1, rfl, hv1⟩, hb1⟩
  have y1 := hid hb1; have V1 := hid hv1; clear hb1 hv1
  obtain ⟨a3, c3, rfl, _⟩ := V1.out.openI
  go_wp2_with fail
  refine (n_result _ _ _ V1.out (by have := LS.out; omega) (HL.out.call y1.out)).mono ?_
  rintro e w2 ⟨rfl, hb2⟩
  have y2 := hid (bnext y1.out hb2); clear hb2
  go_wp2_with fail
  go_ret2
  exact ⟨rfl, y2.out⟩
set_option maxRecDepth 100000 in
set_option maxHeartbeats 1000000 in
theorem n_Mul (w : World) (s t : ByteArray) (hs : s.size ≤ 1000000) (ht : t.size ≤ 1000000) (hL : Lay w) :
    Calls Tryz.prog 67 #[.string s, .string t] w fun e w' => e = .returned (.tuple #[.string (natB ((· * ·)) s t), .int .i64 (natE ((· * ·)) s t)]) ∧ Below w.heap.size w w' := by
  have P := hid (n_pair w s t 108 (resB (((· * ·)) (bN s) (bN t))) (resE (((· * ·)) (bN s) (bN t))) hs ht hL (enters_of Tryz.func108 (by kernel_rfl) rfl)
    (fun W v u h1 h2 hv hu hLW => n_Mul1 W v u _ _ hv hu (errN_dig h1).2.2 (errN_dig h2).2.2 hLW))
  go_enter Tryz.func67, Tryz.ntmps67
  go_wp2_with fail
  refine P.out.mono ?_
  rintro e w1 ⟨rfl, hb1⟩
  go_wp2_with fail
  go_ret2
  exact ⟨rfl, hb1⟩
/-- Subtraction's text and error. -/
def subB (a b : Nat) : ByteArray := if a < b then ⟨#[]⟩ else resB (a - b)
def subE (a b : Nat) : Int := if a < b then 2 else resE (a - b)
set_option maxRecDepth 100000 in
set_option maxHeartbeats 1000000 in
theorem n_Sub1 (w : World) (v u : Value) (a b : Nat) (ha : IsN .u64 w v a) (hb : IsN .u64 w u b) (hla : (limbs a).length ≤ 1000) (hlb : (limbs b).length ≤ 1000) (hL : Lay w) :
    Calls Tryz.prog 191 #[v, u] w fun e w' => e = .returned (.tuple #[.string (subB a b), .int .i64 (subE a b)]) ∧ Below w.heap.size w w' := by
  have HA := hid ha; have HB := hid hb; have HL := hid hL
  have LA := hid hla; have LB := hid hlb
  have LS := hid (len_sub hla hlb)
  obtain ⟨a1, c1, rfl, _⟩ := ha.openI
  obtain ⟨a2, c2, rfl, _⟩ := hb.openI
  clear ha hb hL hla hlb
  have C := hid (l_Cmp w _ _ a b HA.out HB.out (by have := LA.out; omega))
  by_cases h : a < b
  · have e1 : subB a b = ⟨#[]⟩ := if_pos h
    have e2 : subE a b = 2 := if_pos h
    rw [e1, e2]
    have e3 : ordN a b = -1 := ordN_lt h
    rw [e3] at C
    clear e1 e2 e3 h
    go_enter Tryz.func191, Tryz.ntmps191
    go_wp2_with fail
    refine C.out.mono ?_
    rintro e w1 ⟨rfl, hb1⟩
    go_wp2_with fail
    go_ret2
    exact ⟨rfl, hb1⟩
  · have e1 : subB a b = resB (a - b) := if_neg h
    have e2 : subE a b = resE (a - b) := if_neg h
    rw [e1, e2]
    have e3 : ordN a b = 0 ∨ ordN a b = 1 := by unfold ordN; rw [if_neg h]; split <;> simp
    obtain ⟨x, hx⟩ : ∃ x, ordN a b = x := ⟨_, rfl⟩
    rw [hx] at C e3
    have q0 : decide (x < 0) = false := by rcases e3 with rfl | rfl <;> decide
    have H := hid h
    clear e1 e2 e3 h hx
    go_enter Tryz.func191, Tryz.ntmps191
    go_wp2_with fail
    refine C.out.mono ?_
    rintro e w1 ⟨rfl, hb1⟩
    have y1 := hid hb1; clear hb1
    go_wp2_with fail
    refine (l_Sub _ _ _ a b (HA.out.call y1.out) (HB.out.call y1.out) (by have := H.out; omega) (by have := LA.out; omega)).mono ?_
    rintro e w2 ⟨⟨v1, rfl, hv1⟩, hb2⟩
    have y2 := hid (bnext y1.out hb2); have V1 := hid hv1; clear hb2 hv1
    obtain ⟨a3, c3, rfl, _⟩ := V1.out.openI
    go_wp2_with fail
    refine (n_result _ _ _ V1.out (by have := LS.out; omega) (HL.out.call y2.out)).mono ?_
    rintro e w3 ⟨rfl, hb3⟩
    have y3 := hid (bnext y2.out hb3); clear hb3
    go_wp2_with fail
    go_ret2
    exact ⟨rfl, y3.out⟩
set_option maxRecDepth 100000 in
set_option maxHeartbeats 1000000 in
theorem n_Sub (w : World) (s t : ByteArray) (hs : s.size ≤ 1000000) (ht : t.size ≤ 1000000) (hL : Lay w) :
    Calls Tryz.prog 161 #[.string s, .string t] w fun e w' => e = .returned (.tuple #[.string (pairB (subB (bN s) (bN t)) s t), .int .i64 (pairE (subE (bN s) (bN t)) s t)]) ∧ Below w.heap.size w w' := by
  have P := hid (n_pair w s t 191 (subB (bN s) (bN t)) (subE (bN s) (bN t)) hs ht hL (enters_of Tryz.func191 (by kernel_rfl) rfl)
    (fun W v u h1 h2 hv hu hLW => n_Sub1 W v u _ _ hv hu (errN_dig h1).2.2 (errN_dig h2).2.2 hLW))
  go_enter Tryz.func161, Tryz.ntmps161
  go_wp2_with fail
  refine P.out.mono ?_
  rintro e w1 ⟨rfl, hb1⟩
  go_wp2_with fail
  go_ret2
  exact ⟨rfl, hb1⟩
set_option maxRecDepth 100000 in
set_option maxHeartbeats 1000000 in
theorem n_Cmp (w : World) (s t : ByteArray) (hs : s.size ≤ 1000000) (ht : t.size ≤ 1000000) :
    Calls Tryz.prog 94 #[.string s, .string t] w fun e w' => e = .returned (.int .i64 (cmpN s.data.toList t.data.toList)) ∧ Below w.heap.size w w' := by
  have HS := fun W => hid (n_Check W s (by omega))
  have HT := fun W => hid (n_Check W t (by omega))
  by_cases h : errN s.data.toList = 0 ∧ errN t.data.toList = 0
  · have e1 : cmpN s.data.toList t.data.toList = ordN (bN s) (bN t) := if_pos h
    rw [e1]
    rw [h.1] at HS
    rw [h.2] at HT
    obtain ⟨d1, d2, d5⟩ := errN_dig h.1
    obtain ⟨d3, d4, -⟩ := errN_dig h.2
    have P1 := fun W => hid (l_Parse W s d1 (by omega))
    have P2 := fun W => hid (l_Parse W t d3 (by omega))
    have fe : firstE 0 0 = 0 := rfl
    have D5 := hid d5
    clear h d1 d2 d3 d4 d5 e1
    go_enter Tryz.func94, Tryz.ntmps94
    go_wp2_with fail
    refine (HS _).out.mono ?_; rintro e w1 ⟨rfl, hb1⟩
    have y1 := hid hb1; clear hb1
    go_wp2_with fail
    refine (HT _).out.mono ?_; rintro e w2 ⟨rfl, hb2⟩
    have y2 := hid (bnext y1.out hb2); clear hb2
    go_wp2_with fail
    refine (n_first _ _ 0 0 ?_ ?_).mono ?_
    · exact (Blk.new _ _ _).cell 0
    · exact (Blk.new _ _ _).cell 1
    rintro e w3 ⟨rfl, rfl⟩
    have y3 := hid (y2.out.alloc y2.out.size (.cells #[.int .i64 0, .int .i64 0] 28))
    rw [fe]
    go_wp2_with fail
    refine (P1 _).out.mono ?_; rintro e w4 ⟨⟨v4, rfl, hv4⟩, hb4⟩
    have y4 := hid (bnext y3.out hb4); have N4 := hid hv4; clear hb4 hv4
    go_wp2_with fail
    refine (P2 _).out.mono ?_; rintro e w5 ⟨⟨v5, rfl, hv5⟩, hb5⟩
    have y5 := hid (bnext y4.out hb5); have N5 := hid (N4.out.call hb5); have V5 := hid hv5; clear hb5 hv5
    go_wp2_with fail
    refine (l_Cmp _ _ _ _ _ N5.out V5.out (Nat.le_trans D5.out (by omega))).mono ?_; rintro e w6 ⟨rfl, hb6⟩
    have y6 := hid (bnext y5.out hb6); clear hb6
    go_wp2_with fail
    go_ret
    exact ⟨rfl, y6.out⟩
  · have e1 : cmpN s.data.toList t.data.toList = 0 := if_neg h
    rw [e1]
    obtain ⟨y, hy⟩ : ∃ y, errN s.data.toList = y := ⟨_, rfl⟩
    obtain ⟨z, hz⟩ : ∃ z, errN t.data.toList = z := ⟨_, rfl⟩
    rw [hy] at HS h
    rw [hz] at HT h
    have fe : ¬ firstE y z = 0 := by
      unfold firstE
      split
      · rename_i h1
        exact fun e => h ⟨h1, e⟩
      · rename_i h1
        exact h1
    obtain ⟨f, hf⟩ : ∃ f, firstE y z = f := ⟨_, rfl⟩
    rw [hf] at fe
    have q0 : (f == 0) = false := by simpa using fe
    have q1 : (f != 0) = true := by simpa using fe
    clear e1 hy hz h
    go_enter Tryz.func94, Tryz.ntmps94
    go_wp2_with fail
    refine (HS _).out.mono ?_; rintro e w1 ⟨rfl, hb1⟩
    have y1 := hid hb1; clear hb1
    go_wp2_with fail
    refine (HT _).out.mono ?_; rintro e w2 ⟨rfl, hb2⟩
    have y2 := hid (bnext y1.out hb2); clear hb2
    go_wp2_with fail
    refine (n_first _ _ y z ?_ ?_).mono ?_
    · exact (Blk.new _ _ _).cell 0
    · exact (Blk.new _ _ _).cell 1
    rintro e w3 ⟨rfl, rfl⟩
    have y3 := hid (y2.out.alloc y2.out.size (.cells #[.int .i64 y, .int .i64 z] 28))
    rw [hf]
    go_wp2_with fail
    go_ret
    exact ⟨rfl, y3.out⟩
end Go.Proofs.YtpehhgkghgbhiaaGreatDoor
namespace Go.Proofs.YtpehhgkghgbhiaaGreatDoor
open Go.RowKit Go.Shelf
open Go.Lib (decDigits nDigits)
set_option linter.unusedVariables false
/-- The error of choose.parts. -/
def bPE (s : ByteArray) : Int := if qE s ≠ 0 then qE s else if iM (cW s) = true ∨ cmpN (cW s).data.toList (qD s).data.toList < 0 then 2 else if 1000 < (cW s).size ∨ 1000 < (qD s).size then 5 else 0
set_option maxRecDepth 100000 in
set_option maxHeartbeats 2000000 in
theorem ch_parts (w : World) (s : ByteArray) (hs : s.size ≤ 100000) (hL : Lay w) :
    Calls Tryz.prog 61 #[.string s] w fun e w' => e = .returned (.tuple #[.string (if bPE s = 0 then cW s else ⟨#[]⟩), .string (if bPE s = 0 then qD s else ⟨#[]⟩), .int .i64 (bPE s)]) ∧ Below w.heap.size w w' := by
  have HC := hid (q_Parts w s (by omega) hL)
  have z1 := cW_size s
  have z2 := qD_size s
  have HM := fun V => hid (n_Cmp V (cW s) (qD s) (by omega) (by omega))
  by_cases he : qE s = 0
  · have e1 : pW s = cW s := if_pos he
    have e2 : pD s = qD s := if_pos he
    rw [e1, e2, he] at HC
    have HE : bPE s = if iM (cW s) = true ∨ cmpN (cW s).data.toList (qD s).data.toList < 0 then 2 else if 1000 < (cW s).size ∨ 1000 < (qD s).size then 5 else 0 := by
      unfold bPE
      rw [if_neg (fun h => h he)]
    rw [HE]
    clear HE e1 e2
    obtain ⟨D, hD⟩ : ∃ D, qD s = D := ⟨_, rfl⟩
    obtain ⟨W, hW⟩ : ∃ W, cW s = W := ⟨_, rfl⟩
    obtain ⟨hw0, hiM⟩ := qE_head he hW
    clear he
    obtain ⟨m, hm⟩ : ∃ m, iM W = m := ⟨_, rfl⟩
    obtain ⟨c, hc⟩ : ∃ c, cmpN W.data.toList D.data.toList = c := ⟨_, rfl⟩
    rw [hD, hW] at HC HM
    rw [hm] at hiM
    rw [hc] at HM
    rw [hD, hW, hm, hc]
    clear hD hW hm hc z1 z2
    rcases m with _ | _
    · by_cases hc2 : c < 0
      · have q0 : decide (c < (0 : Int)) = true := by simp; omega
        simp only [hc2, or_true, if_true, show ¬ (2 : Int) = 0 by decide, if_false]
        clear hc2
        go_enter Tryz.func61, Tryz.ntmps61
        go_wp2_with fail
        refine HC.out.mono ?_; rintro e w1 ⟨rfl, hb1⟩
        have y1 := hid hb1; clear hb1
        go_wp2_with fail
        refine (HM _).out.mono ?_; rintro e w2 ⟨rfl, hb2⟩
        have y2 := hid (bnext y1.out hb2); clear hb2
        go_wp2_with fail
        go_ret3
        exact ⟨rfl, y2.out⟩
      · have q0 : decide (c < (0 : Int)) = false := by simp; omega
        simp only [hc2, Bool.false_eq_true, or_self, if_false]
        clear hc2
        by_cases hl1 : 1000 < W.size
        · have q1 : decide ((1000 : Int) < (W.size : Int)) = true := by simp; omega
          simp only [hl1, true_or, if_true, show ¬ (5 : Int) = 0 by decide, if_false]
          clear hl1
          go_enter Tryz.func61, Tryz.ntmps61
          go_wp2_with fail
          refine HC.out.mono ?_; rintro e w1 ⟨rfl, hb1⟩
          have y1 := hid hb1; clear hb1
          go_wp2_with fail
          refine (HM _).out.mono ?_; rintro e w2 ⟨rfl, hb2⟩
          have y2 := hid (bnext y1.out hb2); clear hb2
          go_wp2_with fail
          go_ret3
          exact ⟨rfl, y2.out⟩
        · have q1 : decide ((1000 : Int) < (W.size : Int)) = false := by simp; omega
          by_cases hl2 : 1000 < D.size
          · have q2 : decide ((1000 : Int) < (D.size : Int)) = true := by simp; omega
            simp only [hl2, or_true, if_true, show ¬ (5 : Int) = 0 by decide, if_false]
            clear hl1 hl2
            go_enter Tryz.func61, Tryz.ntmps61
            go_wp2_with fail
            refine HC.out.mono ?_; rintro e w1 ⟨rfl, hb1⟩
            have y1 := hid hb1; clear hb1
            go_wp2_with fail
            refine (HM _).out.mono ?_; rintro e w2 ⟨rfl, hb2⟩
            have y2 := hid (bnext y1.out hb2); clear hb2
            go_wp2_with fail
            go_ret3
            exact ⟨rfl, y2.out⟩
          · have q2 : decide ((1000 : Int) < (D.size : Int)) = false := by simp; omega
            simp only [hl1, hl2, or_self, if_false, if_true]
            clear hl1 hl2
            go_enter Tryz.func61, Tryz.ntmps61
            go_wp2_with fail
            refine HC.out.mono ?_; rintro e w1 ⟨rfl, hb1⟩
            have y1 := hid hb1; clear hb1
            go_wp2_with fail
            refine (HM _).out.mono ?_; rintro e w2 ⟨rfl, hb2⟩
            have y2 := hid (bnext y1.out hb2); clear hb2
            go_wp2_with fail
            go_ret3
            exact ⟨rfl, y2.out⟩
    · simp only [true_or, if_true, show ¬ (2 : Int) = 0 by decide, if_false]
      go_enter Tryz.func61, Tryz.ntmps61
      go_wp2_with fail
      refine HC.out.mono ?_; rintro e w1 ⟨rfl, hb1⟩
      have y1 := hid hb1; clear hb1
      go_wp2_with fail
      go_ret3
      exact ⟨rfl, y1.out⟩
  · have e1 : pW s = ⟨#[]⟩ := if_neg he
    have e2 : pD s = ⟨#[]⟩ := if_neg he
    have e3 : bPE s = qE s := by unfold bPE; rw [if_pos he]
    rw [e1, e2] at HC
    rw [e3, if_neg he, if_neg he]
    obtain ⟨x, hx⟩ : ∃ x, qE s = x := ⟨_, rfl⟩
    rw [hx] at HC he ⊢
    have q0 : (x == 0) = false := by simpa using he
    have q1 : (x != 0) = true := by simpa using he
    clear e1 e2 e3 hx z1 z2 HM
    go_enter Tryz.func61, Tryz.ntmps61
    go_wp2_with fail
    refine HC.out.mono ?_; rintro e w1 ⟨rfl, hb1⟩
    have y1 := hid hb1; clear hb1
    go_wp2_with fail
    go_ret3
    exact ⟨rfl, y1.out⟩
/-- The greatest bound of a base. -/
def mbB (s : ByteArray) : Nat := if bPE s = 0 then 400 / (2 * (cW s).size) else 0
theorem bPE_size {s : ByteArray} (h : bPE s = 0) : 1 ≤ (cW s).size ∧ (cW s).size ≤ 1000 ∧ (qD s).size ≤ 1000 ∧ qE s = 0 := by
  have hq : qE s = 0 := by
    unfold bPE at h
    by_cases hq : qE s = 0
    · exact hq
    · rw [if_pos hq] at h; exact absurd h hq
  obtain ⟨h0, -⟩ := qE_head hq rfl
  unfold bPE at h
  rw [if_neg (by simpa using hq)] at h
  split at h
  · exact absurd h (by decide)
  · split at h
    · exact absurd h (by decide)
    · rename_i h2
      exact ⟨h0, by omega, by omega, hq⟩
set_option maxRecDepth 100000 in
set_option maxHeartbeats 1000000 in
theorem ch_MaxBound (w : World) (s : ByteArray) (hs : s.size ≤ 100000) (hL : Lay w) :
    Calls Tryz.prog 24 #[.string s] w fun e w' => e = .returned (.tuple #[.int .i64 (mbB s : Nat), .int .i64 (bPE s)]) ∧ Below w.heap.size w w' := by
  have PP := hid (ch_parts w s hs hL)
  by_cases he : bPE s = 0
  · obtain ⟨k1, k2, k3, -⟩ := bPE_size he
    have e1 : mbB s = 400 / (2 * (cW s).size) := if_pos he
    rw [e1, he]
    rw [if_pos he, if_pos he, he] at PP
    obtain ⟨D, hD⟩ : ∃ D, qD s = D := ⟨_, rfl⟩
    obtain ⟨W, hW⟩ : ∃ W, cW s = W := ⟨_, rfl⟩
    rw [hD, hW] at PP
    rw [hW] at k1 k2 ⊢
    have EQ := hid (show ((400 / (2 * W.size) : Nat) : Int) = 400 / (2 * (W.size : Int)) from by rw [Int.natCast_ediv, Int.natCast_mul]; rfl)
    have b1 : (0 : Int) < (W.size : Int) := by omega
    have b2 : (W.size : Int) ≤ 1000 := by omega
    clear he e1 k1 k2 k3 hD hW
    go_enter Tryz.func24, Tryz.ntmps24
    go_wp2_with fail
    refine PP.out.mono ?_; rintro e w1 ⟨rfl, hb1⟩
    have y1 := hid hb1; clear hb1
    go_wp2_with fail
    go_ret2
    exact ⟨by rw [EQ.out]; rfl, y1.out⟩
  · have e1 : mbB s = 0 := if_neg he
    rw [e1]
    rw [if_neg he, if_neg he] at PP
    obtain ⟨x, hx⟩ : ∃ x, bPE s = x := ⟨_, rfl⟩
    rw [hx] at PP he ⊢
    have q0 : (x == 0) = false := by simpa using he
    have q1 : (x != 0) = true := by simpa using he
    clear hx e1
    go_enter Tryz.func24, Tryz.ntmps24
    go_wp2_with fail
    refine PP.out.mono ?_; rintro e w1 ⟨rfl, hb1⟩
    have y1 := hid hb1; clear hb1
    go_wp2_with fail
    go_ret2
    exact ⟨rfl, y1.out⟩
end Go.Proofs.YtpehhgkghgbhiaaGreatDoor
namespace Go.Proofs.YtpehhgkghgbhiaaGreatDoor
open Go.RowKit
/-- A row of ints. -/
def zs (l : List Int) : List Value := l.map (Value.int .i64)
@[simp] theorem zs_length (l : List Int) : (zs l).length = l.length := by simp [zs]
theorem zs_get {l : List Int} {i : Nat} {x : Int} (h : l[i]? = some x) : (zs l)[i]? = some (.int .i64 x) := by simp [zs, h]
theorem zs_one (l : List Int) : ∀ u ∈ zs l, u.oneCell' = true := by
  intro u hu
  obtain ⟨x, _, rfl⟩ := List.mem_map.1 hu
  rfl
theorem Row.openZ {w : World} {v : Value} {l : List Int} (h : Row w v (zs l)) : ∃ a c, v = .slice a l.length c ∧ l.length ≤ c ∧ c ≤ 9223372036854775807 ∧ ∀ (i : Nat) (x : Int), l[i]? = some x → ∃ g o, a = some ⟨g, o, none⟩ ∧ g < w.heap.size ∧ w.cell? ⟨g, o + i, none⟩ = some (.int .i64 x) := by
  obtain ⟨a, c, rfl, h1, h2, h3⟩ := h.ex
  rw [zs_length] at *
  exact ⟨a, c, rfl, h1, by unfold maxLen at h2; omega, fun i x hx => h3 i _ (zs_get hx)⟩
end Go.Proofs.YtpehhgkghgbhiaaGreatDoor
namespace Go.Proofs.YtpehhgkghgbhiaaGreatDoor
open Go.RowKit
open Go.Lib (decDigits nDigits)
theorem bN_num (n : Nat) : bN (numB n) = n := by rw [bN, numB_list, dv_dec]
theorem errN_numB {n : Nat} (h : nDigits n ≤ 4000) : errN (numB n).data.toList = 0 := by rw [numB_list]; exact errN_num h
theorem natB_num {f : Nat → Nat → Nat} {a b : Nat} (ha : nDigits a ≤ 4000) (hb : nDigits b ≤ 4000) (hf : nDigits (f a b) ≤ 4000) : natB f (numB a) (numB b) = numB (f a b) := by
  unfold natB pairB
  rw [if_pos ⟨errN_numB ha, errN_numB hb⟩, bN_num, bN_num, resB, if_neg (by omega)]
theorem cmpN_num {a b : Nat} (ha : nDigits a ≤ 4000) (hb : nDigits b ≤ 4000) : cmpN (numB a).data.toList (numB b).data.toList = ordN a b := by
  unfold cmpN
  rw [if_pos ⟨errN_numB ha, errN_numB hb⟩, numB_list, numB_list, dv_dec, dv_dec]
theorem numB_sz {n : Nat} (h : nDigits n ≤ 4000) : (numB n).size ≤ 1000000 := by rw [numB_size]; omega
theorem fit_mul {a b k l : Nat} (ha : a < 10 ^ k) (hb : b < 10 ^ l) : a * b < 10 ^ (k + l) := by
  rw [Nat.pow_add]
  exact Nat.mul_lt_mul'' ha hb
theorem fit_add {a b k : Nat} (ha : a < 10 ^ k) (hb : b < 10 ^ k) : a + b < 10 ^ (k + 1) := by
  rw [Nat.pow_succ]; omega
theorem fit_up {a k l : Nat} (ha : a < 10 ^ k) (h : k ≤ l) : a < 10 ^ l := Nat.lt_of_lt_of_le ha (Nat.pow_le_pow_right (by omega) h)
end Go.Proofs.YtpehhgkghgbhiaaGreatDoor
namespace Go.Proofs.YtpehhgkghgbhiaaGreatDoor
open Go.RowKit
set_option linter.unusedVariables false
/-- The sum of the first i weights. -/
def pre (ws : List Nat) (i : Nat) : Nat := (ws.take i).sum
theorem pre_zero (ws : List Nat) : pre ws 0 = 0 := rfl
theorem pre_succ {ws : List Nat} {i x : Nat} (h : ws[i]? = some x) : pre ws (i + 1) = pre ws i + x := by
  unfold pre
  rw [List.take_add_one, h]
  simp
theorem pre_le (ws : List Nat) : ∀ (i d : Nat), pre ws i ≤ pre ws (i + d)
  | i, 0 => Nat.le_refl _
  | i, d + 1 => by
    refine Nat.le_trans (pre_le ws i d) ?_
    rw [← Nat.add_assoc]
    cases h : ws[i + d]? with
    | some x => rw [pre_succ h]; omega
    | none =>
      have hl := List.getElem?_eq_none_iff.1 h
      unfold pre
      rw [List.take_of_length_le hl, List.take_of_length_le (by omega)]
      exact Nat.le_refl _
theorem pre_mono (ws : List Nat) {i j : Nat} (h : i ≤ j) : pre ws i ≤ pre ws j := by
  obtain ⟨d, rfl⟩ := Nat.exists_eq_add_of_le h
  exact pre_le ws i d
theorem pre_all {ws : List Nat} {i : Nat} (h : ws.length ≤ i) : pre ws i = ws.sum := by unfold pre; rw [List.take_of_length_le h]
theorem pre_sum (ws : List Nat) (i : Nat) : pre ws i ≤ ws.sum := by
  by_cases h : i ≤ ws.length
  · have := pre_mono ws h
    rwa [pre_all (Nat.le_refl _)] at this
  · rw [pre_all (by omega)]; exact Nat.le_refl _
/-- The first number below n that p holds of, or n. -/
def fstI (p : Nat → Bool) (n : Nat) : Nat := (List.range n).findIdx p
theorem fstI_eq {p : Nat → Bool} {n i : Nat} (h1 : i ≤ n) (h2 : ∀ x, x < i → p x = false) (h3 : i < n → p i = true) : fstI p n = i := by
  unfold fstI
  by_cases hl : i < n
  · rw [List.findIdx_eq (by simpa using hl)]
    simp only [List.getElem_range]
    exact ⟨h3 hl, fun j hj => h2 j hj⟩
  · obtain rfl : i = n := by omega
    have h : (List.range i).findIdx p = (List.range i).length := by
      rw [List.findIdx_eq_length]
      intro x hx
      simp at hx
      exact by simpa using h2 x hx
    rw [h, List.length_range]
/-- A cell of k among t: which index, whether that is decided. -/
def pkF (ws : List Nat) (k t : Nat) : Nat × Bool :=
  let i := fstI (fun i => decide (k * ws.sum < pre ws (i + 1) * t)) ws.length
  (i, decide (i < ws.length) && decide (k * ws.sum + ws.sum ≤ pre ws (i + 1) * t))
/-- The result of a draw from the cell of k among t on. -/
def pdr (f : Nat → Nat → Nat × Bool) : Nat → Nat → List UInt8 → Bool × Nat × Nat
  | k, t, l =>
    if (f k t).2 = true then (true, (f k t).1, 0)
    else match l with
      | [] => (false, 0, 0)
      | b :: r =>
        let x := pdr f (k + k + (if b = 49 then 1 else 0)) (t + t) r
        (x.1, x.2.1, x.2.2 + 1)
  termination_by _ _ l => l.length
theorem pdr_done {f : Nat → Nat → Nat × Bool} {k t : Nat} {l : List UInt8} (h : (f k t).2 = true) : pdr f k t l = (true, (f k t).1, 0) := by
  rw [pdr.eq_def]; dsimp only; rw [if_pos h]
theorem pdr_late {f : Nat → Nat → Nat × Bool} {k t : Nat} (h : (f k t).2 = false) : pdr f k t [] = (false, 0, 0) := by
  rw [pdr.eq_def]; dsimp only; rw [if_neg (by simp [h])]
theorem pdr_next {f : Nat → Nat → Nat × Bool} {k t : Nat} {b : UInt8} {r : List UInt8} (h : (f k t).2 = false) : pdr f k t (b :: r) = ((pdr f (k + k + (if b = 49 then 1 else 0)) (t + t) r).1, (pdr f (k + k + (if b = 49 then 1 else 0)) (t + t) r).2.1, (pdr f (k + k + (if b = 49 then 1 else 0)) (t + t) r).2.2 + 1) := by
  rw [pdr.eq_def]; dsimp only; rw [if_neg (by simp [h])]
/-- The result behind u bits. -/
def pdAt (f : Nat → Nat → Nat × Bool) (l : List UInt8) (k t u : Nat) : Bool × Nat × Nat := let x := pdr f k t (l.drop u); (x.1, x.2.1, x.2.2 + u)
theorem pdAt_done {f : Nat → Nat → Nat × Bool} {k t u : Nat} {l : List UInt8} (h : (f k t).2 = true) : pdAt f l k t u = (true, (f k t).1, u) := by
  unfold pdAt; rw [pdr_done h]; simp
theorem pdAt_late {f : Nat → Nat → Nat × Bool} {k t : Nat} {l : List UInt8} (h : (f k t).2 = false) : pdAt f l k t l.length = (false, 0, l.length) := by
  unfold pdAt; rw [List.drop_length, pdr_late h]; simp
theorem pdAt_next {f : Nat → Nat → Nat × Bool} {k t u : Nat} {l : List UInt8} (h : (f k t).2 = false) (hu : u < l.length) : pdAt f l k t u = pdAt f l (k + k + (if l[u] = 49 then 1 else 0)) (t + t) (u + 1) := by
  unfold pdAt
  rw [List.drop_eq_getElem_cons hu, pdr_next h]
  simp only [Prod.mk.injEq, true_and]
  omega
theorem pdAt_start (f : Nat → Nat → Nat × Bool) (l : List UInt8) : pdAt f l 0 1 0 = pdr f 0 1 l := by
  unfold pdAt; simp
/-- How many bit strings of a length with t cells decide the index i. -/
def cntF (ws : List Nat) (t i : Nat) : Nat := pre ws i * t / ws.sum + (if pre ws i * t % ws.sum ≠ 0 then 1 else 0)
def cntE (ws : List Nat) (t i : Nat) : Nat := pre ws (i + 1) * t / ws.sum
def cnt (ws : List Nat) (t i : Nat) : Nat := cntE ws t i - cntF ws t i
end Go.Proofs.YtpehhgkghgbhiaaGreatDoor
namespace Go.Proofs.YtpehhgkghgbhiaaGreatDoor
open Go.RowKit
open Go.Lib (decDigits nDigits)
theorem limbs_digits {n K : Nat} (h : nDigits n ≤ 9 * K) : (limbs n).length ≤ K := by
  refine limbs_length_le.2 ?_
  have h1 := Go.Lib.lt_pow_nDigits n
  have h2 : 10 ^ nDigits n ≤ 10 ^ (9 * K) := Nat.pow_le_pow_right (by omega) h
  rw [Nat.pow_mul] at h2
  exact Nat.lt_of_lt_of_le h1 h2
theorem limbs_of_digits {n : Nat} (h : nDigits n ≤ 4000) : (limbs n).length ≤ 445 := limbs_digits (by omega)
theorem limbs_mul {a b p q : Nat} (ha : (limbs a).length ≤ p) (hb : (limbs b).length ≤ q) : (limbs (a * b)).length ≤ p + q := by
  refine limbs_length_le.2 ?_
  have h1 := limbs_length_le.1 ha
  have h2 := limbs_length_le.1 hb
  rw [Nat.pow_add]
  exact Nat.mul_lt_mul'' h1 h2
theorem IsN.cast {k : IntKind} {w : World} {v : Value} {m n : Nat} (h : IsN k w v m) (e : m = n) : IsN k w v n := e ▸ h
theorem nDigits_one : nDigits 1 = 1 := Go.Lib.nDigits_small (by omega)
theorem nDigits_zero : nDigits 0 = 1 := Go.Lib.nDigits_small (by omega)
end Go.Proofs.YtpehhgkghgbhiaaGreatDoor
namespace Go.Proofs.YtpehhgkghgbhiaaGreatDoor
open Go.RowKit Go.Shelf
open Go.Lib (decDigits nDigits)
set_option linter.unusedVariables false
set_option linter.unusedSimpArgs false
theorem nd_lt {n A : Nat} (h : nDigits n ≤ A) : n < 10 ^ A := Nat.lt_of_lt_of_le (Go.Lib.lt_pow_nDigits n) (Nat.pow_le_pow_right (by omega) h)
theorem nd_mul {a b A B : Nat} (ha : nDigits a ≤ A) (hb : nDigits b ≤ B) (h0 : 0 < A + B) : nDigits (a * b) ≤ A + B := nDigits_le h0 (fit_mul (nd_lt ha) (nd_lt hb))
theorem nd_add {a b A : Nat} (ha : nDigits a ≤ A) (hb : nDigits b ≤ A) : nDigits (a + b) ≤ A + 1 := nDigits_le (by omega) (fit_add (nd_lt ha) (nd_lt hb))
theorem nd_pos (n : Nat) : 0 < nDigits n := by
  have h := Go.Lib.lt_pow_nDigits n
  rcases Nat.eq_zero_or_pos (nDigits n) with e | e
  · rw [← Go.Lib.decDigits_length] at e
    exact absurd (List.eq_nil_of_length_eq_zero e) (dec_ne_nil n)
  · exact e
theorem sum_lt {A : Nat} : ∀ (ws : List Nat), (∀ x ∈ ws, nDigits x ≤ A) → ws.sum ≤ ws.length * 10 ^ A
  | [], _ => by simp
  | x :: ws, h => by
    have h1 := nd_lt (h x (List.mem_cons_self ..))
    have h2 := sum_lt ws (fun y hy => h y (List.mem_cons_of_mem _ hy))
    rw [List.sum_cons, List.length_cons, Nat.add_mul, Nat.one_mul]
    omega
theorem nd_sum {A : Nat} {ws : List Nat} (h : ∀ x ∈ ws, nDigits x ≤ A) (hl : ws.length < 100) : nDigits ws.sum ≤ A + 2 := by
  refine nDigits_le (by omega) (Nat.lt_of_le_of_lt (sum_lt ws h) ?_)
  rw [Nat.pow_add, Nat.mul_comm]
  exact Nat.mul_lt_mul_of_pos_left (by omega) (Nat.pow_pos (by omega))
theorem nd_pre {ws : List Nat} (i : Nat) {A : Nat} (h : nDigits ws.sum ≤ A) : nDigits (pre ws i) ≤ A := Nat.le_trans (nDigits_mono (pre_sum ws i)) h
set_option maxRecDepth 100000 in
set_option maxHeartbeats 1000000 in
theorem n_pairK (w : World) (s t : ByteArray) (F : Nat) (cs : Array Value) (R : ByteArray) (x : Int) (QQ : World → World → Prop) (hs : errN s.data.toList = 0) (ht : errN t.data.toList = 0)
    (hen : ∀ args w, (callFunc F args).run Tryz.prog w = .ok (.enter F args) w)
    (hF : ∀ W v u, Below w.heap.size w W → IsN .u64 W v (bN s) → IsN .u64 W u (bN t) → Calls Tryz.prog F (#[v, u] ++ cs) W fun e w' => e = .returned (.tuple #[.string R, .int .i64 x]) ∧ QQ W w') :
    Calls Tryz.prog 107 #[.string s, .string t, .func (.func F) #[] cs] w fun e w' => e = .returned (.tuple #[.string R, .int .i64 x]) ∧ ∃ W, Below w.heap.size w W ∧ QQ W w' := by
  obtain ⟨d1, d2, -⟩ := errN_dig hs
  obtain ⟨d3, d4, -⟩ := errN_dig ht
  have HS := fun W => hid (n_Check W s (by omega))
  have HT := fun W => hid (n_Check W t (by omega))
  rw [hs] at HS
  rw [ht] at HT
  have HF := hid hF
  have P1 := fun W => hid (l_Parse W s d1 (by omega))
  have P2 := fun W => hid (l_Parse W t d3 (by omega))
  have fe : firstE 0 0 = 0 := rfl
  clear hF hs ht d1 d2 d3 d4
  go_enter Tryz.func107, Tryz.ntmps107
  go_wp2_with fail
  refine (HS _).out.mono ?_; rintro e w1 ⟨rfl, hb1⟩
  have y1 := hid hb1; clear hb1
  go_wp2_with fail
  refine (HT _).out.mono ?_; rintro e w2 ⟨rfl, hb2⟩
  have y2 := hid (bnext y1.out hb2); clear hb2
  go_wp2_with fail
  refine (n_first _ _ 0 0 ?_ ?_).mono ?_
  · exact (Blk.new _ _ _).cell 0
  · exact (Blk.new _ _ _).cell 1
  rintro e w3 ⟨rfl, rfl⟩
  have y3 := hid (y2.out.alloc y2.out.size (.cells #[.int .i64 0, .int .i64 0] 28))
  rw [fe]
  go_wp2_with fail
  refine (P1 _).out.mono ?_; rintro e w4 ⟨⟨v4, rfl, hv4⟩, hb4⟩
  have y4 := hid (bnext y3.out hb4); have N4 := hid hv4; clear hb4 hv4
  go_wp2_with fail
  refine (P2 _).out.mono ?_; rintro e w5 ⟨⟨v5, rfl, hv5⟩, hb5⟩
  have y5 := hid (bnext y4.out hb5); have N5 := hid (N4.out.call hb5); have D5 := hid hv5; clear hb5 hv5
  go_wp2_with fail
  refine (HF.out _ _ _ y5.out N5.out D5.out).mono ?_; rintro e w6 ⟨rfl, hq⟩
  have y6 := hid (show ∃ W, Below w.heap.size w W ∧ QQ W w6 from ⟨_, y5.out, hq⟩); clear hq
  go_wp2_with fail
  go_ret2
  exact ⟨rfl, y6.out⟩
end Go.Proofs.YtpehhgkghgbhiaaGreatDoor
namespace Go.Proofs.YtpehhgkghgbhiaaGreatDoor
open Go.RowKit
open Go.Lib (decDigits nDigits)
set_option linter.unusedVariables false
/-- A utility that is clamped. -/
def clp (B : Nat) (u : Int) : Int := max (-(B : Int)) (min (B : Int) u)
theorem clp_lo (B : Nat) (u : Int) : -(B : Int) ≤ clp B u := Int.le_max_left _ _
theorem clp_hi (B : Nat) (u : Int) : clp B u ≤ (B : Int) := by unfold clp; omega
/-- The weight of a utility. -/
def cwN (n d B : Nat) (u : Int) : Nat := n ^ ((B : Int) + clp B u).toNat * d ^ ((B : Int) - clp B u).toNat
def cwL (n d B : Nat) (us : List Int) : List Nat := us.map (cwN n d B)
theorem pow_swap {n d a b a' b' : Nat} (hd : d ≤ n) (hs : a + b = a' + b') (h : a ≤ a') : n ^ a * d ^ b ≤ n ^ a' * d ^ b' := by
  obtain ⟨k, rfl⟩ := Nat.exists_eq_add_of_le h
  obtain rfl : b = b' + k := by omega
  rw [Nat.pow_add, Nat.pow_add, Nat.mul_assoc, Nat.mul_comm (n ^ k)]
  exact Nat.mul_le_mul_left _ (Nat.mul_le_mul_left _ (Nat.pow_le_pow_left hd k))
/-- A base and a bound that can be computed with. -/
structure ChOk (n d B : Nat) : Prop where
  d1 : 1 ≤ d
  le : d ≤ n
  fit : 2 * B * nDigits n ≤ 400
theorem nd_pow {n L k : Nat} (h : nDigits n ≤ L) (hk : 0 < L * k) : nDigits (n ^ k) ≤ L * k := by
  refine nDigits_le hk ?_
  rw [Nat.pow_mul]
  have hk0 : k ≠ 0 := by intro e; rw [e] at hk; omega
  exact Nat.pow_lt_pow_left (nd_lt h) hk0
theorem ChOk.pow {n d B : Nat} (h : ChOk n d B) {k : Nat} (hk : k ≤ 2 * B) : nDigits (n ^ k) ≤ 400 ∧ nDigits (d ^ k) ≤ 400 := by
  have hn : nDigits (n ^ k) ≤ 400 := by
    rcases Nat.eq_zero_or_pos k with rfl | hk0
    · rw [Nat.pow_zero, nDigits_one]; omega
    · have h1 := nd_pos n
      have h2 := nd_pow (n := n) (L := nDigits n) (k := k) (Nat.le_refl _) (Nat.mul_pos h1 hk0)
      have h3 : nDigits n * k ≤ nDigits n * (2 * B) := Nat.mul_le_mul_left _ hk
      rw [Nat.mul_comm (nDigits n) (2 * B)] at h3
      have := h.fit
      omega
  exact ⟨hn, Nat.le_trans (nDigits_mono (Nat.pow_le_pow_left h.le k)) hn⟩
theorem cw_exp (B : Nat) (u : Int) : ((B : Int) + clp B u).toNat ≤ 2 * B ∧ ((B : Int) - clp B u).toNat ≤ 2 * B ∧ ((B : Int) + clp B u).toNat + ((B : Int) - clp B u).toNat = 2 * B := by
  have h1 := clp_lo B u
  have h2 := clp_hi B u
  omega
theorem ChOk.fits {n d B : Nat} (h : ChOk n d B) (u : Int) : nDigits (cwN n d B u) ≤ 400 := by
  obtain ⟨h1, h2, h3⟩ := cw_exp B u
  have hle : cwN n d B u ≤ n ^ (2 * B) * d ^ 0 := pow_swap h.le (by omega) h1
  rw [Nat.pow_zero, Nat.mul_one] at hle
  exact Nat.le_trans (nDigits_mono hle) (h.pow (Nat.le_refl _)).1
theorem ChOk.pos {n d B : Nat} (h : ChOk n d B) (u : Int) : 0 < cwN n d B u :=
  Nat.mul_pos (Nat.pow_pos (by have := h.d1; have := h.le; omega)) (Nat.pow_pos h.d1)
end Go.Proofs.YtpehhgkghgbhiaaGreatDoor
namespace Go.Proofs.YtpehhgkghgbhiaaGreatDoor
open Go.RowKit Go.Shelf
open Go.Lib (decDigits nDigits)
set_option linter.unusedVariables false
/-- A string of bits. -/
def bitB (s : ByteArray) : Bool := s.data.toList.all fun b => b == 48 || b == 49
def bitE (s : ByteArray) : Int := if bitB s = true then 0 else 3
theorem bits_ascii : ∀ (j : Nat) b, (⟨#[48, 49]⟩ : ByteArray).data.toList[j]? = some b → b.toNat < 128 := ascii_of_all (by decide)
theorem bitB_trim (s : ByteArray) : (Lib.trimS s.data.toList [48, 49]).isEmpty = bitB s := by
  rw [Bool.eq_iff_iff, List.isEmpty_iff, trim_nil, bitB, List.all_eq_true]
  refine forall_congr' fun b => forall_congr' fun _ => ?_
  rw [List.contains_iff_mem]
  simp
set_option maxRecDepth 100000 in
set_option maxHeartbeats 1000000 in
theorem b_Check (w : World) (s : ByteArray) (hs : s.size ≤ 100000000) :
    Calls Tryz.prog 128 #[.string s] w fun e w' => e = .returned (.int .i64 (bitE s)) ∧ Below w.heap.size w w' := by
  have htr := hid (Tryz.strings_Trim s ⟨#[48, 49]⟩ w (by omega) (by decide) bits_ascii)
  have hb := bitB_trim s
  obtain ⟨r, hr⟩ : ∃ r, Lib.trimS s.data.toList [48, 49] = r := ⟨_, rfl⟩
  have e0 : (⟨#[48, 49]⟩ : ByteArray).data.toList = [48, 49] := rfl
  rw [e0, hr] at htr
  rw [hr] at hb
  cases r with
  | nil =>
    have e1 : bitE s = 0 := if_pos hb.symm
    rw [e1]
    clear hb hr e1
    go_enter Tryz.func128, Tryz.ntmps128
    go_wp2_with fail
    refine htr.out.mono ?_; rintro e w1 ⟨rfl, hb1⟩
    go_wp2_with fail
    go_ret
    exact ⟨rfl, hb1⟩
  | cons b r =>
    have e1 : bitE s = 3 := if_neg (by rw [← hb]; simp)
    rw [e1]
    clear hb hr e1
    go_enter Tryz.func128, Tryz.ntmps128
    go_wp2_with fail
    refine htr.out.mono ?_; rintro e w1 ⟨rfl, hb1⟩
    go_wp2_with fail
    go_ret
    exact ⟨rfl, hb1⟩
/-- The error of a string of bits of bounded length. -/
def chkE (s : ByteArray) : Int := if bitB s = true then (if 256 < s.size then 4 else 0) else 3
end Go.Proofs.YtpehhgkghgbhiaaGreatDoor
namespace Go.Proofs.YtpehhgkghgbhiaaGreatDoor
open Go.RowKit Go.Shelf
open Go.Lib (decDigits nDigits)
set_option linter.unusedVariables false
set_option linter.unusedSimpArgs false
set_option maxRecDepth 100000 in
set_option maxHeartbeats 1000000 in
theorem p_checked (w : World) (s : ByteArray) (hs : s.size ≤ 100000000) :
    Calls Tryz.prog 88 #[.string s] w fun e w' => e = .returned (.int .i64 (chkE s)) ∧ Below w.heap.size w w' := by
  have HC := hid (b_Check w s hs)
  by_cases hb : bitB s = true
  · have e0 : bitE s = 0 := if_pos hb
    rw [e0] at HC
    by_cases hl : 256 < s.size
    · have e1 : chkE s = 4 := by rw [chkE, if_pos hb, if_pos hl]
      have q0 : decide ((256 : Int) < (s.size : Int)) = true := by simp; omega
      rw [e1]
      clear hb hl e0 e1
      go_enter Tryz.func88, Tryz.ntmps88
      go_wp2_with fail
      refine HC.out.mono ?_; rintro e w1 ⟨rfl, hb1⟩
      go_wp2_with fail
      go_ret
      exact ⟨rfl, hb1⟩
    · have e1 : chkE s = 0 := by rw [chkE, if_pos hb, if_neg hl]
      have q0 : decide ((256 : Int) < (s.size : Int)) = false := by simp; omega
      rw [e1]
      clear hb hl e0 e1
      go_enter Tryz.func88, Tryz.ntmps88
      go_wp2_with fail
      refine HC.out.mono ?_; rintro e w1 ⟨rfl, hb1⟩
      go_wp2_with fail
      go_ret
      exact ⟨rfl, hb1⟩
  · have e0 : bitE s = 3 := if_neg hb
    have e1 : chkE s = 3 := if_neg hb
    rw [e0] at HC
    rw [e1]
    clear hb e0 e1
    go_enter Tryz.func88, Tryz.ntmps88
    go_wp2_with fail
    refine HC.out.mono ?_; rintro e w1 ⟨rfl, hb1⟩
    go_wp2_with fail
    go_ret
    exact ⟨rfl, hb1⟩
/-- On numerals that are small enough. -/
theorem pk_plus (w : World) (a b : Nat) (ha : nDigits a ≤ 4000) (hb : nDigits b ≤ 4000) (hab : nDigits (a + b) ≤ 4000) (hL : Lay w) :
    Calls Tryz.prog 95 #[.string (numB a), .string (numB b)] w fun e w' => e = .returned (.string (numB (a + b))) ∧ Below w.heap.size w w' := by
  have P := hid (n_Add w (numB a) (numB b) (numB_sz ha) (numB_sz hb) hL)
  rw [natB_num ha hb hab] at P
  generalize numB a = A at *
  generalize numB b = B at *
  generalize numB (a + b) = C at *
  clear ha hb hab hL
  go_enter Tryz.func95, Tryz.ntmps95
  go_wp2_with fail
  refine P.out.mono ?_; rintro e w1 ⟨rfl, hb1⟩
  go_wp2_with fail
  go_ret
  exact ⟨rfl, hb1⟩
/-- On numerals that are small enough. -/
theorem pk_times (w : World) (a b : Nat) (ha : nDigits a ≤ 4000) (hb : nDigits b ≤ 4000) (hab : nDigits (a * b) ≤ 4000) (hL : Lay w) :
    Calls Tryz.prog 91 #[.string (numB a), .string (numB b)] w fun e w' => e = .returned (.string (numB (a * b))) ∧ Below w.heap.size w w' := by
  have P := hid (n_Mul w (numB a) (numB b) (numB_sz ha) (numB_sz hb) hL)
  rw [natB_num ha hb hab] at P
  generalize numB a = A at *
  generalize numB b = B at *
  generalize numB (a * b) = C at *
  clear ha hb hab hL
  go_enter Tryz.func91, Tryz.ntmps91
  go_wp2_with fail
  refine P.out.mono ?_; rintro e w1 ⟨rfl, hb1⟩
  go_wp2_with fail
  go_ret
  exact ⟨rfl, hb1⟩
/-- Texts in memory. -/
def strs (l : List ByteArray) : List Value := l.map Value.string
@[simp] theorem strs_length (l : List ByteArray) : (strs l).length = l.length := by simp [strs]
theorem strs_get {l : List ByteArray} {i : Nat} {b : ByteArray} (h : l[i]? = some b) : (strs l)[i]? = some (.string b) := by simp [strs, h]
/-- The first error of some weights. -/
def wtE : List ByteArray → Int
  | [] => 0
  | b :: r => if errN b.data.toList ≠ 0 then errN b.data.toList else if 3800 < b.size then 5 else wtE r
/-- The error of weights. -/
def wsE (l : List ByteArray) : Int := if l.length = 0 ∨ 64 < l.length then 2 else if wtE l ≠ 0 then wtE l else if l.any (fun b => decide (b ≠ ⟨#[48]⟩)) = true then 0 else 6
end Go.Proofs.YtpehhgkghgbhiaaGreatDoor
namespace Go.Proofs.YtpehhgkghgbhiaaGreatDoor
open Go.RowKit
open Go.Lib (decDigits nDigits)
theorem numB_of {s : ByteArray} (h : fB s = true) : s = numB (bN s) := by
  have h1 := dec_of_form (formB_iff.1 h)
  apply ByteArray.ext
  show s.data = (decDigits (dv s.data.toList)).toArray
  rw [← h1]
theorem iD_plain {s : ByteArray} (h : iM s = false) : iD s = s := by
  unfold iM at h
  unfold iD Lib.trimPrefix
  rw [h]
  rfl
end Go.Proofs.YtpehhgkghgbhiaaGreatDoor
namespace Go.Proofs.YtpehhgkghgbhiaaGreatDoor
open Go.RowKit
open Go.Lib (decDigits nDigits)
def noSl (l : List UInt8) : Prop := ∀ b ∈ l, b ≠ 47
theorem ix_none : ∀ {l : List UInt8}, noSl l → Lib.index l [47] = -1
  | [], _ => rfl
  | b :: l, h => by
    have h1 : b ≠ 47 := h b (List.mem_cons_self ..)
    have h2 := ix_none (l := l) (fun x hx => h x (List.mem_cons_of_mem _ hx))
    have h3 : ((47 : UInt8) == b) = false := by rw [beq_eq_false_iff_ne]; exact fun e => h1 e.symm
    simp [Lib.index, List.isPrefixOf, h2, h3]
theorem ix_at : ∀ {l r : List UInt8}, noSl l → Lib.index (l ++ 47 :: r) [47] = l.length
  | [], r, _ => by simp [Lib.index, List.isPrefixOf]
  | b :: l, r, h => by
    have h1 : b ≠ 47 := h b (List.mem_cons_self ..)
    have h2 := ix_at (l := l) (r := r) (fun x hx => h x (List.mem_cons_of_mem _ hx))
    have h3 : ((47 : UInt8) == b) = false := by rw [beq_eq_false_iff_ne]; exact fun e => h1 e.symm
    have h4 : ((l.length : Int) == -1) = false := by rw [beq_eq_false_iff_ne]; omega
    simp only [List.cons_append, Lib.index, List.isPrefixOf, h3, h2, h4, Bool.false_and]
    simp
theorem cut_none {l : List UInt8} (h : noSl l) : Lib.cut l [47] = (l, [], false) := by
  unfold Lib.cut
  rw [if_neg (by rw [ix_none h]; decide)]
theorem cut_at {l r : List UInt8} (h : noSl l) : Lib.cut (l ++ 47 :: r) [47] = (l, r, true) := by
  unfold Lib.cut
  rw [if_pos (by rw [ix_at h]; omega), ix_at h]
  simp [List.drop_append]
theorem sl_cases : ∀ s : List UInt8, noSl s ∨ ∃ A B, noSl A ∧ s = A ++ 47 :: B
  | [] => .inl (fun b h => by cases h)
  | b :: l => by
    by_cases hb : b = 47
    · exact .inr ⟨[], l, fun b h => (by cases h), by rw [hb]; rfl⟩
    · rcases sl_cases l with h | ⟨A, B, hA, e⟩
      · exact .inl (fun x hx => by
          rcases List.mem_cons.1 hx with rfl | hx
          · exact hb
          · exact h x hx)
      · exact .inr ⟨b :: A, B, fun x hx => (by
          rcases List.mem_cons.1 hx with rfl | hx
          · exact hb
          · exact hA x hx), by rw [e]; rfl⟩
theorem noSl_dig {l : List UInt8} (h : allDig l) : noSl l := fun b hb e => by
  have := isDig_iff.1 (h b hb)
  rw [e] at this
  simp at this
/-- The text of a sign, a numerator and a denominator. -/
def txB (m : Bool) (n d : Nat) : ByteArray := ⟨((if m = true then [45] else []) ++ (decDigits n ++ (if d = 1 then [] else 47 :: decDigits d))).toArray⟩
def txQ (q : Rat) : ByteArray := txB (decide (q.num < 0)) q.num.natAbs q.den
theorem ba_ext {a b : ByteArray} (h : a.data.toList = b.data.toList) : a = b := by
  apply ByteArray.ext
  exact Array.toList_inj.1 h
theorem txB_list (m : Bool) (n d : Nat) : (txB m n d).data.toList = (if m = true then [45] else []) ++ (decDigits n ++ (if d = 1 then [] else 47 :: decDigits d)) := by simp [txB]
theorem tx_head (m : Bool) (n : Nat) : noSl ((if m = true then [45] else []) ++ decDigits n) := by
  intro b hb
  rcases List.mem_append.1 hb with h | h
  · cases m <;> simp at h
    rw [h]; decide
  · exact noSl_dig (allDig_dec n) b h
theorem cut_tx (m : Bool) (n d : Nat) : Lib.cut (txB m n d).data.toList [47] = ((if m = true then [45] else []) ++ decDigits n, if d = 1 then [] else decDigits d, !decide (d = 1)) := by
  rw [txB_list, ← List.append_assoc]
  by_cases h : d = 1
  · rw [if_pos h, List.append_nil, cut_none (tx_head m n), if_pos h]
    simp [h]
  · rw [if_neg h, cut_at (tx_head m n), if_neg h]
    simp [h]
theorem cW_tx (m : Bool) (n d : Nat) : (cW (txB m n d)).data.toList = (if m = true then [45] else []) ++ decDigits n := by simp [cW, cut_tx]
theorem cB_tx (m : Bool) (n d : Nat) : (cB (txB m n d)).data.toList = if d = 1 then [] else decDigits d := by simp [cB, cut_tx]
theorem cS_tx (m : Bool) (n d : Nat) : cS (txB m n d) = !decide (d = 1) := by simp [cS, cut_tx]
theorem qD_tx (m : Bool) (n d : Nat) : qD (txB m n d) = numB d := by
  unfold qD
  rw [cS_tx]
  by_cases h : d = 1
  · rw [h]; rw [if_neg (by simp)]; unfold numB; rw [dec_one]
  · rw [if_pos (by simp [h])]
    apply ba_ext
    rw [cB_tx, if_neg h, numB_list]
theorem minus_dec (n : Nat) : List.isPrefixOf [(45 : UInt8)] (decDigits n) = false := by
  cases h : decDigits n with
  | nil => rfl
  | cons b l =>
    have := isDig_iff.1 (allDig_dec n b (by rw [h]; exact List.mem_cons_self ..))
    have h3 : ((45 : UInt8) == b) = false := by
      rw [beq_eq_false_iff_ne]
      rintro rfl
      simp at this
    simp [List.isPrefixOf, h3]
theorem iM_tx (m : Bool) (n d : Nat) : iM (cW (txB m n d)) = m := by
  unfold iM Lib.hasPrefix
  rw [cW_tx]
  cases m
  · simpa using minus_dec n
  · simp [List.isPrefixOf]
theorem iD_tx (m : Bool) (n d : Nat) : iD (cW (txB m n d)) = numB n := by
  apply ba_ext
  have h := iM_tx m n d
  unfold iM at h
  unfold iD Lib.trimPrefix
  rw [h, cW_tx, numB_list]
  cases m <;> simp
theorem bN_iD_tx (m : Bool) (n d : Nat) : bN (iD (cW (txB m n d))) = n := by rw [iD_tx, bN_num]
theorem bN_qD_tx (m : Bool) (n d : Nat) : bN (qD (txB m n d)) = d := by rw [qD_tx, bN_num]
theorem numB_ne {a b : Nat} (h : a ≠ b) : numB a ≠ numB b := fun e => h (by rw [← bN_num a, e, bN_num])
theorem numB_zero : numB 0 = ⟨#[48]⟩ := by unfold numB; rw [dec_zero]
theorem numB_one : numB 1 = ⟨#[49]⟩ := by unfold numB; rw [dec_one]
theorem fB_num (n : Nat) : fB (numB n) = true := by unfold fB; rw [numB_list]; exact formB_dec n
/-- The text of a reduced fraction is valid. -/
theorem qE_tx {m : Bool} {n d : Nat} (hg : Nat.gcd n d = 1) (hd : 0 < d) (hm : m = true → n ≠ 0) (h1 : nDigits n ≤ 4000) (h2 : nDigits d ≤ 4000) : qE (txB m n d) = 0 := by
  refine qE_ok ?_ ?_ ?_
  · unfold qB iB
    rw [iD_tx, iM_tx, cS_tx, fB_num]
    have e1 : (m && decide (numB n = ⟨#[48]⟩)) = false := by
      cases m
      · rfl
      · rw [← numB_zero]; simpa using numB_ne (hm rfl)
    rw [e1]
    by_cases h : d = 1
    · simp [h]
    · have e2 : cB (txB m n d) = numB d := by
        apply ba_ext
        rw [cB_tx, if_neg h, numB_list]
      have hn : n ≠ 0 := fun e => by rw [e, Nat.gcd_zero_left] at hg; exact h hg
      rw [e2, fB_num, ← numB_zero, ← numB_one]
      have q1 := numB_ne hn
      have q2 := numB_ne (show d ≠ 0 by omega)
      have q3 := numB_ne h
      simp [q1, q2, q3]
  · unfold qL
    rw [iD_tx, qD_tx, numB_size, numB_size]
    simp
    omega
  · unfold qG
    rw [bN_iD_tx, bN_qD_tx]
    simp [hg]
/-- The number of a text. -/
def vQ (s : ByteArray) : Rat := qmk (iM (cW s)) (bN (iD (cW s))) (bN (qD s))
theorem formZ {s : ByteArray} (h : fB s = true) (h0 : s ≠ ⟨#[48]⟩) : 0 < bN s := by
  rcases Nat.eq_zero_or_pos (bN s) with e | e
  · have := numB_of h
    rw [e, numB_zero] at this
    exact absurd this h0
  · exact e
/-- The parts of a valid text. -/
theorem valid {s : ByteArray} (h : qE s = 0) : Nat.gcd (bN (iD (cW s))) (bN (qD s)) = 1 ∧ 0 < bN (qD s) ∧ (iM (cW s) = true → bN (iD (cW s)) ≠ 0) ∧ nDigits (bN (iD (cW s))) ≤ 4000 ∧ nDigits (bN (qD s)) ≤ 4000 ∧ s = txB (iM (cW s)) (bN (iD (cW s))) (bN (qD s)) := by
  obtain ⟨h1, h2, h3⟩ := qE_zero h
  have hW := iB_form (qB_whole h1)
  have hD := qB_below h1
  have eW := numB_of hW
  have eD := numB_of hD
  have hm : iM (cW s) = true → bN (iD (cW s)) ≠ 0 := by
    intro hm e
    have h4 := qB_whole h1
    unfold iB at h4
    rw [e, numB_zero] at eW
    rw [hm, eW] at h4
    simp at h4
  unfold qL at h2
  simp only [Bool.or_eq_false_iff, decide_eq_false_iff_not] at h2
  have l1 : nDigits (bN (iD (cW s))) ≤ 4000 := by
    have := h2.1
    rw [eW, numB_size] at this
    rw [eW, bN_num] at *
    omega
  have l2 : nDigits (bN (qD s)) ≤ 4000 := by
    have := h2.2
    rw [eD, numB_size] at this
    rw [eD, bN_num] at *
    omega
  have es : (cW s).data.toList = (if iM (cW s) = true then [45] else []) ++ decDigits (bN (iD (cW s))) := by
    have e : (iD (cW s)).data.toList = decDigits (bN (iD (cW s))) := by rw [eW, bN_num, numB_list]
    rw [← e]
    unfold iD Lib.trimPrefix
    cases hm2 : Lib.hasPrefix (cW s).data.toList [45]
    · have : iM (cW s) = false := hm2
      rw [this]
      simp
    · have : iM (cW s) = true := hm2
      rw [this]
      have hp : List.isPrefixOf [45] (cW s).data.toList = true := hm2
      obtain ⟨t, ht⟩ := List.isPrefixOf_iff_prefix.1 hp
      rw [← ht]
      simp
  refine ⟨?_, ?_, hm, l1, l2, ?_⟩
  · unfold qG at h3
    cases hS : cS s
    · have : qD s = numB 1 := by unfold qD; rw [hS, numB_one]; rfl
      rw [this, bN_num, Nat.gcd_one_right]
    · rw [hS] at h3
      simpa using h3
  · cases hS : cS s
    · have : qD s = numB 1 := by unfold qD; rw [hS, numB_one]; rfl
      rw [this, bN_num]; omega
    · unfold qB at h1
      rw [hS] at h1
      simp only [Bool.and_eq_true, Bool.or_eq_true, Bool.not_true, Bool.false_eq_true, false_or, decide_eq_true_eq] at h1
      have : qD s = cB s := by unfold qD; rw [if_pos hS]
      rw [this]
      exact formZ h1.2.1.1.2 h1.2.1.2
  · apply ba_ext
    rw [txB_list]
    rcases sl_cases s.data.toList with h4 | ⟨A, B, hA, e⟩
    · have hc := cut_none h4
      have hS : cS s = false := by unfold cS; rw [hc]
      have hq : bN (qD s) = 1 := by
        have : qD s = numB 1 := by unfold qD; rw [hS, numB_one]; rfl
        rw [this, bN_num]
      rw [hq, if_pos rfl, List.append_nil]
      have e1 : (cW s).data.toList = s.data.toList := by unfold cW; rw [hc]
      rw [← es, e1]
    · have hc := cut_at (r := B) hA
      rw [← e] at hc
      have hS : cS s = true := by unfold cS; rw [hc]
      have hB : qD s = cB s := by unfold qD; rw [if_pos hS]
      have e1 : (cW s).data.toList = A := by unfold cW; rw [hc]
      have e2 : (cB s).data.toList = B := by unfold cB; rw [hc]
      have e3 : B = decDigits (bN (qD s)) := by rw [← e2, ← hB, eD, bN_num, numB_list]
      have hne : bN (qD s) ≠ 1 := by
        intro hb
        unfold qB at h1
        rw [hS] at h1
        simp only [Bool.and_eq_true, Bool.or_eq_true, Bool.not_true, Bool.false_eq_true, false_or, decide_eq_true_eq] at h1
        refine h1.2.2 ?_
        rw [← hB, eD, hb, numB_one]
      rw [if_neg hne, ← e3, e, ← List.append_assoc, ← es, e1]
theorem qmk_ok {m : Bool} {n d : Nat} (hg : Nat.gcd n d = 1) (hd : 0 < d) (hm : m = true → n ≠ 0) : decide ((qmk m n d).num < 0) = m ∧ (qmk m n d).num.natAbs = n ∧ (qmk m n d).den = d := by
  have e1 := qmk_num (m := m) (n := n) hd
  have e2 := qmk_den (m := m) (n := n) hd
  rw [hg, Nat.div_one] at e1 e2
  refine ⟨?_, by rw [e1, sgn_natAbs], e2⟩
  rw [e1]
  rcases Nat.eq_zero_or_pos n with rfl | hn
  · cases m
    · rw [sgn_zero]; rfl
    · exact absurd rfl (hm rfl)
  · exact sgn_neg hn
/-- A valid text is the text of its number. -/
theorem vQ_ok {s : ByteArray} (h : qE s = 0) : decide ((vQ s).num < 0) = iM (cW s) ∧ (vQ s).num.natAbs = bN (iD (cW s)) ∧ (vQ s).den = bN (qD s) := by
  obtain ⟨h1, h2, h3, -⟩ := valid h
  exact qmk_ok h1 h2 h3
/-- Whether a number's text would be too long. -/
def ovQ (q : Rat) : Prop := 4000 < nDigits q.num.natAbs ∨ 4000 < nDigits q.den
instance (q : Rat) : Decidable (ovQ q) := by unfold ovQ; infer_instance
theorem vQ_fits {s : ByteArray} (h : qE s = 0) : ¬ ovQ (vQ s) := by
  obtain ⟨e1, e2, e3⟩ := vQ_ok h
  obtain ⟨-, -, -, l1, l2, -⟩ := valid h
  unfold ovQ
  rw [e2, e3]
  omega
theorem gcd_q (q : Rat) : Nat.gcd q.num.natAbs q.den = 1 := q.reduced
theorem neg_q (q : Rat) : decide (q.num < 0) = true → q.num.natAbs ≠ 0 := by
  intro h
  have := of_decide_eq_true h
  omega
theorem qE_txQ {q : Rat} (h : ¬ ovQ q) : qE (txQ q) = 0 := by
  unfold ovQ at h
  exact qE_tx (gcd_q q) q.den_pos (neg_q q) (by omega) (by omega)
theorem vQ_txQ (q : Rat) : vQ (txQ q) = q := by
  unfold vQ txQ
  rw [iM_tx, bN_iD_tx, bN_qD_tx, qmk_self]
/-- The text and the error of a result. -/
def outB (q : Rat) : ByteArray := if ovQ q then ⟨#[]⟩ else txQ q
def outE (q : Rat) : Int := if ovQ q then 5 else 0
def op2B (f : Rat → Rat → Rat) (s t : ByteArray) : ByteArray := if qE s = 0 ∧ qE t = 0 then outB (f (vQ s) (vQ t)) else ⟨#[]⟩
def op2E (f : Rat → Rat → Rat) (s t : ByteArray) : Int := if qE s = 0 then (if qE t = 0 then outE (f (vQ s) (vQ t)) else qE t) else qE s
end Go.Proofs.YtpehhgkghgbhiaaGreatDoor
namespace Go.Proofs.YtpehhgkghgbhiaaGreatDoor
open Go.RowKit Go.Shelf
open Go.Lib (decDigits nDigits)
set_option linter.unusedVariables false
set_option linter.unusedSimpArgs false
/-- A function that says whether a cell decides a value, in every later world. -/
def DecOk (F : Nat) (cs : Array Value) (f : Nat → Nat → Nat × Bool) (w : World) : Prop :=
  ∀ (W : World) (k u : Nat), Below w.heap.size w W → k < 2 ^ u → u ≤ 256 →
    Calls Tryz.prog F (#[.string (numB k), .string (numB (2 ^ u))] ++ cs) W fun e w' => e = .returned (.tuple #[.int .i64 ((f k (2 ^ u)).1 : Nat), .bool (f k (2 ^ u)).2]) ∧ Below W.heap.size W w'
/-- What the rounds of draw keep. -/
structure PdI (f : Nat → Nat → Nat × Bool) (L : List UInt8) (k u : Nat) : Prop where
  le : u ≤ L.length
  lt : k < 2 ^ u
  eq : pdAt f L k (2 ^ u) u = pdr f 0 1 L
theorem PdI.start (f : Nat → Nat → Nat × Bool) (L : List UInt8) : PdI f L 0 0 := ⟨Nat.zero_le _, by decide, pdAt_start f L⟩
theorem PdI.next {f : Nat → Nat → Nat × Bool} {L : List UInt8} {k u : Nat} (h : PdI f L k u) (hn : (f k (2 ^ u)).2 = false) (hu : u < L.length) : PdI f L (k + k + (if L[u] = 49 then 1 else 0)) (u + 1) := by
  refine ⟨hu, ?_, ?_⟩
  · have := h.lt
    rw [Nat.pow_succ]; split <;> omega
  · rw [← h.eq, pdAt_next hn hu, Nat.pow_succ, Nat.mul_two]
theorem PdI.done {f : Nat → Nat → Nat × Bool} {L : List UInt8} {k u : Nat} (h : PdI f L k u) (hn : (f k (2 ^ u)).2 = true) : pdr f 0 1 L = (true, (f k (2 ^ u)).1, u) := by
  rw [← h.eq, pdAt_done hn]
theorem PdI.late {f : Nat → Nat → Nat × Bool} {L : List UInt8} {k u : Nat} (h : PdI f L k u) (hn : (f k (2 ^ u)).2 = false) (hu : u = L.length) : pdr f 0 1 L = (false, 0, L.length) := by
  subst hu
  rw [← h.eq, pdAt_late hn]
def dw3 (x : Bool × Nat × Nat) : Value := .agg #[.bool x.1, .int .i64 (x.2.1 : Nat), .int .i64 (x.2.2 : Nat)]
theorem two_nd {u : Nat} (h : u ≤ 300) : nDigits (2 ^ u) ≤ 100 := by
  refine nDigits_le (by omega) (Nat.lt_of_le_of_lt (Nat.pow_le_pow_right (by omega) h) ?_)
  decide +kernel
set_option maxRecDepth 100000 in
set_option maxHeartbeats 2000000 in
theorem p_draw (w : World) (b : ByteArray) (F : Nat) (cs : Array Value) (f : Nat → Nat → Nat × Bool) (hb : b.size ≤ 256) (hen : ∀ args w, (callFunc F args).run Tryz.prog w = .ok (.enter F args) w) (hF : DecOk F cs f w) (hL : Lay w) :
    Calls Tryz.prog 89 #[.string b, .func (.func F) #[] cs] w fun e w' => e = .returned (dw3 (pdr f 0 1 b.data.toList)) ∧ Below w.heap.size w w' := by
  have HF := fun W k u hb h1 h2 => hid (hF W k u hb h1 h2)
  have hPl := fun W a b h1 h2 h3 hW => hid (pk_plus W a b h1 h2 h3 hW)
  obtain ⟨L, hLL⟩ : ∃ L, b.data.toList = L := ⟨_, rfl⟩
  have hlen := hid (show L.length = b.size from by rw [← hLL]; simp)
  have hget := hid (fun (i : Nat) (h : i < b.size) => show L[i]? = some b[i] from by rw [← hLL]; exact byte_get h)
  rw [hLL]
  have HL := hid hL; have HB := hid hb
  clear hF hL hLL
  have e0 : (⟨#[48]⟩ : ByteArray) = numB 0 := numB_zero.symm
  have e1 : (⟨#[49]⟩ : ByteArray) = numB 1 := numB_one.symm
  have x0 := hid (Blk.new w #[.bool false, .int .i64 0, .int .i64 0] 48)
  have b0 := hid ((Below.refl w.heap.size w).alloc (Nat.le_refl _) (.cells #[.bool false, .int .i64 0, .int .i64 0] 48))
  have E0 := hid e0; have E1 := hid e1
  clear e0 e1
  go_enter Tryz.func89, Tryz.ntmps89
  go_wp2_with fail
  go_loopw [5, 6, 7] (fun kk tt uu wr => ∃ k u : Nat, kk = .string (numB k) ∧ tt = .string (numB (2 ^ u)) ∧ uu = .int .i64 u ∧ u ≤ b.size ∧ Hid (PdI f L k u) ∧ Hid (Blk wr w.heap.size #[.bool false, .int .i64 0, .int .i64 0] 48) ∧ Hid (Below w.heap.size w wr)) (fun kk tt uu wr => b.size - (intOf uu).toNat)
  case atStart => exact ⟨0, 0, by rw [← E0.out], by rw [Nat.pow_zero, ← E1.out], rfl, Nat.zero_le _, PdI.start f L, x0, b0⟩
  case round =>
    obtain ⟨k, u, rfl, rfl, rfl, hu, hI, k0, hB⟩ := hrel
    have HD := HF wr k u hB.out hI.out.lt (by have := HB.out; omega)
    obtain ⟨vv, hvv⟩ : ∃ x, (f k (2 ^ u)).1 = x := ⟨_, rfl⟩
    obtain ⟨bb, hbb⟩ : ∃ x, (f k (2 ^ u)).2 = x := ⟨_, rfl⟩
    rw [hvv, hbb] at HD
    have HVV := hid hvv; have HBB := hid hbb
    have hk1 := nDigits_mono (Nat.le_of_lt hI.out.lt)
    have hk2 := two_nd (u := u) (by have := HB.out; omega)
    have hk3 := two_nd (u := u + 1) (by have := HB.out; omega)
    have P1 := hPl
    clear hvv hbb
    obtain ⟨K, hK⟩ : ∃ x, numB k = x := ⟨_, rfl⟩
    obtain ⟨T, hT⟩ : ∃ x, numB (2 ^ u) = x := ⟨_, rfl⟩
    have HK := hid hK; have HT := hid hT
    have ND := hid (And.intro hk1 (And.intro hk2 hk3))
    rw [hK, hT] at HD ⊢
    clear hK hT hk1 hk2 hk3 P1
    go_wp2_with fail
    refine HD.out.mono ?_; rintro e w1 ⟨rfl, hb1⟩
    have y1 := hid (bnext hB.out hb1); have k1 := hid (k0.out.call hb1)
    clear hb1
    cases bb
    · by_cases hlt : u = b.size
      · have q0 : ((u : Int) == (b.size : Int)) = true := by rw [hlt]; simp
        have LT := hid (hI.out.late HBB.out (by rw [hlen.out]; exact hlt))
        have r0 := k1.out.cell 0
        have r1 := k1.out.cell 1
        have r2 := k1.out.cell 2
        have f0 := k1.out.free 0
        have f1 := k1.out.free 1
        have f2 := k1.out.free 2
        simp at r0 r1 r2
        have hub := hid hlt
        clear hlt
        go_wp2_with fail
        have s3 := ((k1.out.set 0 (.bool false)).set 1 (.int .i64 0)).set 2 (.int .i64 (u : Nat))
        have z0 := s3.cell 0
        have z1 := s3.cell 1
        have z2 := s3.cell 2
        simp at z0 z1 z2
        refine bodyPost_ret (v := .agg #[.bool false, .int .i64 0, .int .i64 (u : Nat)]) (by simp [results, Tryz.results89, go_sem, z0, z1, z2]) rfl ⟨by rw [LT.out, hlen.out, hub.out]; rfl, ?_⟩
        exact ((y1.out.setCell (Nat.le_refl _) _).setCell (Nat.le_refl _) _).setCell (Nat.le_refl _) _
      · have q0 : ((u : Int) == (b.size : Int)) = false := by rw [beq_eq_false_iff_ne]; omega
        have hub : u < b.size := by omega
        have NX := hid (hI.out.next HBB.out (by rw [hlen.out]; exact hub))
        have hg := hget.out u hub
        have hgl : L[u]'(by rw [hlen.out]; exact hub) = b[u] := by
          have := List.getElem?_eq_getElem (l := L) (i := u) (by rw [hlen.out]; exact hub)
          rw [hg] at this
          exact (Option.some.inj this).symm
        have HN2 := hid (show 2 ^ u + 2 ^ u = 2 ^ (u + 1) from by rw [Nat.pow_succ]; omega)
        have klt := hid hI.out.lt
        rw [hgl] at NX
        have R1 := fun W hW => hPl W k k (by have := ND.out; omega) (by have := ND.out; omega) (by
          have h1 := nDigits_mono (show k + k ≤ 2 ^ (u + 1) by rw [← HN2.out]; have := klt.out; omega)
          have := ND.out; omega) hW
        have R2 := fun W hW => hPl W (2 ^ u) (2 ^ u) (by have := ND.out; omega) (by have := ND.out; omega) (by rw [HN2.out]; have := ND.out; omega) hW
        have R3 := fun W hW => hPl W (k + k) 1 (by
          have h1 := nDigits_mono (show k + k ≤ 2 ^ (u + 1) by rw [← HN2.out]; have := klt.out; omega)
          have := ND.out; omega) (by rw [nDigits_one]; omega) (by
          have h1 := nDigits_mono (show k + k + 1 ≤ 2 ^ (u + 1) by rw [← HN2.out]; have := klt.out; omega)
          have := ND.out; omega) hW
        rw [HK.out] at R1
        rw [HT.out, HN2.out] at R2
        rw [← E1.out] at R3
        clear hlt hg hgl
        by_cases h1 : b[u] = 49
        · have q1 : ((b[u].toNat : Int) == 49) = true := by rw [h1]; rfl
          rw [if_pos h1] at NX
          clear h1
          go_wp2_with fail
          refine (R1 _ (HL.out.call y1.out)).out.mono ?_; rintro e w2 ⟨rfl, hb2⟩
          have y2 := hid (bnext y1.out hb2); have k2 := hid (k1.out.call hb2)
          clear hb2
          go_wp2_with fail
          refine (R2 _ (HL.out.call y2.out)).out.mono ?_; rintro e w3 ⟨rfl, hb3⟩
          have y3 := hid (bnext y2.out hb3); have k3 := hid (k2.out.call hb3)
          clear hb3
          go_wp2_with fail
          refine (R3 _ (HL.out.call y3.out)).out.mono ?_; rintro e w4 ⟨rfl, hb4⟩
          have y4 := hid (bnext y3.out hb4); have k4 := hid (k3.out.call hb4)
          clear hb4
          go_wp2_with fail
          go_roundw
          case rel => exact ⟨_, u + 1, rfl, rfl, by go_num, by omega, NX, k4, y4⟩
          case measure => simp [intOf] <;> omega
        · have q1 : ((b[u].toNat : Int) == 49) = false := by
            rw [beq_eq_false_iff_ne]
            intro e
            refine h1 ?_
            have : b[u].toNat = (49 : UInt8).toNat := by simp; omega
            exact UInt8.toNat_inj.1 this
          rw [if_neg h1] at NX
          clear h1
          go_wp2_with fail
          refine (R1 _ (HL.out.call y1.out)).out.mono ?_; rintro e w2 ⟨rfl, hb2⟩
          have y2 := hid (bnext y1.out hb2); have k2 := hid (k1.out.call hb2)
          clear hb2
          go_wp2_with fail
          refine (R2 _ (HL.out.call y2.out)).out.mono ?_; rintro e w3 ⟨rfl, hb3⟩
          have y3 := hid (bnext y2.out hb3); have k3 := hid (k2.out.call hb3)
          clear hb3
          go_wp2_with fail
          go_roundw
          case rel => exact ⟨_, u + 1, rfl, rfl, by go_num, by omega, NX, k3, y3⟩
          case measure => simp [intOf] <;> omega
    · have DN := hid (hI.out.done HBB.out)
      rw [HVV.out] at DN
      have r0 := k1.out.cell 0
      have r1 := k1.out.cell 1
      have r2 := k1.out.cell 2
      have f0 := k1.out.free 0
      have f1 := k1.out.free 1
      have f2 := k1.out.free 2
      simp at r0 r1 r2
      go_wp2_with fail
      have s3 := ((k1.out.set 0 (.bool true)).set 1 (.int .i64 (vv : Nat))).set 2 (.int .i64 (u : Nat))
      have z0 := s3.cell 0
      have z1 := s3.cell 1
      have z2 := s3.cell 2
      simp at z0 z1 z2
      refine bodyPost_ret (v := .agg #[.bool true, .int .i64 (vv : Nat), .int .i64 (u : Nat)]) (by simp [results, Tryz.results89, go_sem, z0, z1, z2]) rfl ⟨by rw [DN.out]; rfl, ?_⟩
      exact ((y1.out.setCell (Nat.le_refl _) _).setCell (Nat.le_refl _) _).setCell (Nat.le_refl _) _
end Go.Proofs.YtpehhgkghgbhiaaGreatDoor
namespace Go.Proofs.YtpehhgkghgbhiaaGreatDoor
open Go.RowKit Go.Shelf
open Go.Lib (decDigits nDigits)
set_option linter.unusedVariables false
set_option linter.unusedSimpArgs false
/-- Whether a weight is not 0. -/
def nzB (b : ByteArray) : Bool := decide (b ≠ ⟨#[48]⟩)
theorem p_nz (w : World) (b : ByteArray) : Calls Tryz.prog 121 #[.string b] w fun e w' => e = .returned (.bool (nzB b)) ∧ w = w' := by
  by_cases h : b = ⟨#[48]⟩
  · subst h
    go_enter Tryz.func121, Tryz.ntmps121
    go_wp2_with fail
    go_ret
    exact ⟨rfl, rfl⟩
  · have i1 := ne_lit (l := [48]) h
    have hn := hid (show nzB b = true from by simp [nzB, h])
    rw [hn.out]
    clear h
    go_enter Tryz.func121, Tryz.ntmps121
    go_wp2_with fail
    go_ret
    exact ⟨rfl, rfl⟩
theorem Row.openS {w : World} {v : Value} {l : List ByteArray} (h : Row w v (strs l)) : ∃ a c, v = .slice a l.length c ∧ l.length ≤ c ∧ c ≤ 9223372036854775807 ∧ ∀ (i : Nat) (x : ByteArray), l[i]? = some x → ∃ g o, a = some ⟨g, o, none⟩ ∧ g < w.heap.size ∧ w.cell? ⟨g, o + i, none⟩ = some (.string x) := by
  obtain ⟨a, c, rfl, h1, h2, h3⟩ := h.ex
  rw [strs_length] at *
  exact ⟨a, c, rfl, h1, by unfold maxLen at h2; omega, fun i x hx => h3 i _ (strs_get hx)⟩
/-- What IndexFunc gives back. -/
def IdxOut (l : List ByteArray) (e : Ending) : Prop := ∃ z : Int, e = .returned (.int .i64 z) ∧ (0 ≤ z ↔ l.any nzB = true)
set_option maxRecDepth 100000 in
set_option maxHeartbeats 1000000 in
theorem p_index (w : World) (v : Value) (l : List ByteArray) (h : Row w v (strs l)) : Calls Tryz.prog 154 #[v, .func (.func 121) #[] #[]] w fun e w' =>
    IdxOut l e ∧ w = w' := by
  obtain ⟨a, c, rfl, h1, h2, h3⟩ := h.openS
  have e91 : ∀ args w, (callFunc 121 args).run Tryz.prog w = .ok (.enter 121 args) w := enters_of Tryz.func121 (by kernel_rfl) rfl
  obtain ⟨n, hn⟩ : ∃ n, l.length = n := ⟨_, rfl⟩
  rw [hn] at h1 ⊢
  have H3 := hid h3; have HN := hid hn
  clear h h3 hn
  go_enter Tryz.func154, Tryz.ntmps154
  go_wp2_with fail
  go_loop [8] (fun ii => ∃ i : Nat, ii = .int .i64 i ∧ i ≤ n ∧ Hid (∀ (j : Nat) (b : ByteArray), j < i → l[j]? = some b → nzB b = false)) (fun ii => n - (intOf ii).toNat)
  case atStart => exact ⟨0, rfl, Nat.zero_le _, fun j b hj => absurd hj (by omega)⟩
  case round =>
    obtain ⟨i, rfl, hi, hI⟩ := hrel
    by_cases hlt : i < n
    · obtain ⟨x, hx⟩ : ∃ x, l[i]? = some x := ⟨_, List.getElem?_eq_getElem (by rw [HN.out]; exact hlt)⟩
      obtain ⟨g, o, rfl, hg, hc⟩ := H3.out i x hx
      obtain ⟨z, hz⟩ : ∃ z, nzB x = z := ⟨_, rfl⟩
      have HX := hid hx; have HZ := hid hz
      have b1 : (0 : Int) ≤ (i : Int) := by omega
      have b2 : (i : Int) < (n : Int) := by omega
      have wi : IntKind.i64.wrap ((i : Int) + 1) = (i : Int) + 1 := by rw [IntWalk.i64_in _ ⟨by omega, by omega⟩]
      have PN := fun W => hid (p_nz W x)
      rw [hz] at PN
      clear hx hz
      go_wp2_with fail
      refine (PN _).out.mono ?_; rintro e w1 ⟨rfl, rfl⟩
      cases z
      · go_wp2_with fail
        go_round
        case rel => exact ⟨i + 1, rfl, by omega, fun j b hj hjb => by
          by_cases e : j = i
          · subst e; rw [HX.out] at hjb; cases hjb; exact HZ.out
          · exact hI.out j b (by omega) hjb⟩
        case measure => simp [intOf] <;> omega
      · go_wp2_with fail
        go_ret
        exact ⟨⟨i, rfl, ⟨fun _ => List.any_eq_true.2 ⟨x, List.mem_of_getElem? HX.out, HZ.out⟩, fun _ => by omega⟩⟩, rfl⟩
    · obtain rfl : i = n := by omega
      go_wp2_with fail
      go_ret
      refine ⟨⟨-1, rfl, ⟨fun h => absurd h (by decide), fun h => ?_⟩⟩, rfl⟩
      obtain ⟨x, hx, hz⟩ := List.any_eq_true.1 h
      obtain ⟨j, hj, rfl⟩ := List.getElem_of_mem hx
      have := hI.out j _ (by rw [← HN.out]; exact hj) (List.getElem?_eq_getElem hj)
      rw [this] at hz
      cases hz
set_option maxRecDepth 100000 in
set_option maxHeartbeats 1000000 in
theorem p_contains (w : World) (v : Value) (l : List ByteArray) (h : Row w v (strs l)) : Calls Tryz.prog 120 #[v, .func (.func 121) #[] #[]] w fun e w' =>
    e = .returned (.bool (l.any nzB)) ∧ w = w' := by
  have PI := hid (p_index w v l h)
  obtain ⟨a, c, rfl, -⟩ := h.openS
  obtain ⟨n, hn⟩ : ∃ n, l.length = n := ⟨_, rfl⟩
  rw [hn] at PI ⊢
  clear h hn
  obtain ⟨b, hb⟩ : ∃ b, l.any nzB = b := ⟨_, rfl⟩
  have HB := hid hb
  rw [hb]
  clear hb
  go_enter Tryz.func120, Tryz.ntmps120
  go_wp2_with fail
  refine PI.out.mono ?_; rintro e w1 ⟨⟨z, rfl, hz⟩, rfl⟩
  rw [HB.out] at hz
  have q : decide (0 ≤ z) = b := by
    rw [Bool.eq_iff_iff, decide_eq_true_iff]
    exact hz
  clear hz
  go_wp2_with fail
  go_ret
  first | exact ⟨by rw [q], rfl⟩ | exact ⟨rfl, rfl⟩
theorem wtE_at : ∀ {l : List ByteArray} {i : Nat}, (∀ (j : Nat) (b : ByteArray), j < i → l[j]? = some b → errN b.data.toList = 0 ∧ b.size ≤ 3800) → wtE l = wtE (l.drop i)
  | [], i, _ => by simp [wtE]
  | b :: r, 0, _ => rfl
  | b :: r, i + 1, h => by
    obtain ⟨h1, h2⟩ := h 0 b (by omega) rfl
    have h3 := wtE_at (l := r) (i := i) (fun j c hj hc => h (j + 1) c (by omega) (by simpa using hc))
    rw [wtE, if_neg (by simp [h1]), if_neg (by omega), h3]
    rfl
set_option maxRecDepth 100000 in
set_option maxHeartbeats 2000000 in
theorem p_check (w : World) (v : Value) (l : List ByteArray) (h : Row w v (strs l)) (hsz : ∀ b ∈ l, b.size ≤ 1000000) :
    Calls Tryz.prog 76 #[v] w fun e w' => e = .returned (.int .i64 (wsE l)) ∧ Below w.heap.size w w' := by
  have HR := hid h
  obtain ⟨a, c, rfl, h1, h2, h3⟩ := h.openS
  obtain ⟨n, hn⟩ : ∃ n, l.length = n := ⟨_, rfl⟩
  unfold wsE
  rw [hn] at h1 HR ⊢
  by_cases hlen : n = 0 ∨ 64 < n
  · rw [if_pos hlen]
    clear h HR h3 hn
    rcases hlen with h0 | h64
    · subst h0
      go_enter Tryz.func76, Tryz.ntmps76
      go_wp2_with fail
      go_ret
      exact ⟨rfl, Below.refl _ _⟩
    · have q0 : ((n : Int) == 0) = false := by rw [beq_eq_false_iff_ne]; omega
      have q1 : decide ((64 : Int) < (n : Int)) = true := by simp; omega
      clear h64
      go_enter Tryz.func76, Tryz.ntmps76
      go_wp2_with fail
      go_ret
      exact ⟨rfl, Below.refl _ _⟩
  · rw [if_neg hlen]
    have q0 : ((n : Int) == 0) = false := by rw [beq_eq_false_iff_ne]; omega
    have q1 : decide ((64 : Int) < (n : Int)) = false := by simp; omega
    have hn64 : n ≤ 64 := by omega
    have H3 := hid h3; have HN := hid hn; have HSZ := hid hsz
    obtain ⟨X, hX⟩ : ∃ X : Int, (if wtE l ≠ 0 then wtE l else if l.any nzB = true then 0 else 6) = X := ⟨_, rfl⟩
    have HX := hid hX
    have hXX : (if wtE l ≠ 0 then wtE l else if l.any (fun b => decide (b ≠ ⟨#[48]⟩)) = true then 0 else 6) = X := hX
    rw [hXX]
    clear h h3 hn hlen hX hXX hsz
    go_enter Tryz.func76, Tryz.ntmps76
    go_wp2_with fail
    clear q0 q1
    go_loopw [16] (fun ii wr => ∃ i : Nat, ii = .int .i64 i ∧ i ≤ n ∧ Hid (∀ (j : Nat) (b : ByteArray), j < i → l[j]? = some b → errN b.data.toList = 0 ∧ b.size ≤ 3800) ∧ Hid (Below w.heap.size w wr)) (fun ii wr => n - (intOf ii).toNat)
    case atStart => exact ⟨0, rfl, Nat.zero_le _, fun j b hj => absurd hj (by omega), Below.refl _ _⟩
    case round =>
      obtain ⟨i, rfl, hi, hI, hB⟩ := hrel
      by_cases hlt : i < n
      · obtain ⟨x, hx⟩ : ∃ x, l[i]? = some x := ⟨_, List.getElem?_eq_getElem (by rw [HN.out]; exact hlt)⟩
        obtain ⟨g, o, rfl, hg, hc⟩ := H3.out i x hx
        have d0 := (hB.out.cell (p := ⟨g, o + i, none⟩) hg).trans hc
        have b1 : (0 : Int) ≤ (i : Int) := by omega
        have b2 : (i : Int) < (n : Int) := by omega
        have wi : IntKind.i64.wrap ((i : Int) + 1) = (i : Int) + 1 := by rw [IntWalk.i64_in _ ⟨by omega, by omega⟩]
        have PN := fun W => hid (n_Check W x (Nat.le_trans (HSZ.out x (List.mem_of_getElem? hx)) (by omega)))
        obtain ⟨y, hy⟩ : ∃ y, errN x.data.toList = y := ⟨_, rfl⟩
        rw [hy] at PN
        have HXX := hid hx; have HY := hid hy
        have hdrop : l.drop i = x :: l.drop (i + 1) := by
          have hil : i < l.length := by rw [HN.out]; exact hlt
          rw [List.drop_eq_getElem_cons hil]
          have := List.getElem?_eq_getElem hil
          rw [hx] at this
          rw [Option.some.inj this]
        have HD := hid hdrop
        clear hx hy hc hdrop
        by_cases hy0 : y = 0
        · subst hy0
          by_cases hl : 3800 < x.size
          · have q2 : decide ((3800 : Int) < (x.size : Int)) = true := by simp; omega
            have HE : Hid (X = 5) := by
              show X = 5
              have : wtE l = 5 := by rw [wtE_at hI.out, HD.out, wtE, if_neg (by simp [HY.out]), if_pos hl]
              rw [← HX.out, this]
              rfl
            clear hl
            go_wp2_with fail
            refine (PN _).out.mono ?_; rintro e w1 ⟨rfl, hb1⟩
            have y1 := hid (bnext hB.out hb1); clear hb1
            go_wp2_with fail
            go_ret
            exact ⟨by rw [HE.out]; rfl, y1.out⟩
          · have q2 : decide ((3800 : Int) < (x.size : Int)) = false := by simp; omega
            have hl' := hid (show x.size ≤ 3800 from by omega)
            clear hl
            go_wp2_with fail
            refine (PN _).out.mono ?_; rintro e w1 ⟨rfl, hb1⟩
            have y1 := hid (bnext hB.out hb1); clear hb1
            go_wp2_with fail
            go_roundw
            case rel => exact ⟨i + 1, rfl, by omega, fun j b hj hjb => by
              by_cases e : j = i
              · subst e; rw [HXX.out] at hjb; cases hjb; exact ⟨HY.out, hl'.out⟩
              · exact hI.out j b (by omega) hjb, y1⟩
            case measure => simp [intOf] <;> omega
        · have q2 : (y != 0) = true := by simpa using hy0
          have HE : Hid (X = y) := by
            show X = y
            have : wtE l = y := by rw [wtE_at hI.out, HD.out, wtE, if_pos (by rw [HY.out]; exact hy0), HY.out]
            rw [← HX.out, this, if_pos hy0]
          clear hy0
          go_wp2_with fail
          refine (PN _).out.mono ?_; rintro e w1 ⟨rfl, hb1⟩
          have y1 := hid (bnext hB.out hb1); clear hb1
          go_wp2_with fail
          go_ret
          exact ⟨by rw [HE.out]; rfl, y1.out⟩
      · obtain rfl : i = n := by omega
        have hw : wtE l = 0 := by
          rw [wtE_at hI.out, ← HN.out, List.drop_length]
          rfl
        have PC := fun W (hW : Below w.heap.size w W) => hid (p_contains W _ l (HR.out.call hW))
        obtain ⟨z, hz⟩ : ∃ z, l.any nzB = z := ⟨_, rfl⟩
        have HE : Hid (X = if z = true then 0 else 6) := by
          show X = _
          rw [← HX.out, hw, hz]
          rfl
        simp only [hz] at PC
        clear hw hz
        go_wp2_with fail
        refine (PC _ hB.out).out.mono ?_; rintro e w1 ⟨rfl, rfl⟩
        cases z
        · go_wp2_with fail
          go_ret
          exact ⟨by rw [HE.out]; rfl, hB.out⟩
        · go_wp2_with fail
          go_ret
          exact ⟨by rw [HE.out]; rfl, hB.out⟩
end Go.Proofs.YtpehhgkghgbhiaaGreatDoor
namespace Go.Proofs.YtpehhgkghgbhiaaGreatDoor
open Go.RowKit Go.Shelf
open Go.Lib (decDigits nDigits)
set_option linter.unusedVariables false
set_option linter.unusedSimpArgs false
/-- Whether a utility is out of range. -/
def wildB (u : Int) : Bool := decide (u < -1125899906842624) || decide (1125899906842624 < u)
theorem ch_wild (w : World) (u : Int) : Calls Tryz.prog 62 #[.int .i64 u] w fun e w' => e = .returned (.bool (wildB u)) ∧ w = w' := by
  unfold wildB
  obtain ⟨a, ha⟩ : ∃ a, decide (u < -1125899906842624) = a := ⟨_, rfl⟩
  obtain ⟨b, hb⟩ : ∃ b, decide (1125899906842624 < u) = b := ⟨_, rfl⟩
  rw [ha, hb]
  cases a
  · go_enter Tryz.func62, Tryz.ntmps62
    go_wp2_with fail
    go_ret
    exact ⟨rfl, rfl⟩
  · clear hb
    go_enter Tryz.func62, Tryz.ntmps62
    go_wp2_with fail
    go_ret
    exact ⟨rfl, rfl⟩
/-- The index of the first element that meets a test, or -1. -/
def idxZ (p : Int → Bool) (l : List Int) : Int := if l.any p = true then (l.findIdx p : Nat) else -1
set_option maxRecDepth 100000 in
set_option maxHeartbeats 2000000 in
theorem s_IndexFuncI (w : World) (v : Value) (l : List Int) (F : Nat) (p : Int → Bool) (hv : Row w v (zs l)) (hl : l.length ≤ 9223372036854775807) (hen : ∀ args w, (callFunc F args).run Tryz.prog w = .ok (.enter F args) w)
    (hF : ∀ W x, Calls Tryz.prog F #[.int .i64 x] W fun e w' => e = .returned (.bool (p x)) ∧ W = w') :
    Calls Tryz.prog 106 #[v, .func (.func F) #[] #[]] w fun e w' => e = .returned (.int .i64 (idxZ p l)) ∧ w = w' := by
  obtain ⟨a, c, rfl, q1, q2, q3⟩ := hv.openZ
  obtain ⟨n, hn⟩ : ∃ n, l.length = n := ⟨_, rfl⟩
  rw [hn] at q1 hl ⊢
  have HN := hid hn; have Q3 := hid q3; have HF := hid hF
  clear hv q3 hn hF
  go_enter Tryz.func106, Tryz.ntmps106
  go_wp2_with fail
  go_loop [8] (fun ii => ∃ i : Nat, ii = .int .i64 i ∧ i ≤ n ∧ Hid (∀ j x, j < i → l[j]? = some x → p x = false)) (fun ii => n - (intOf ii).toNat)
  case atStart => exact ⟨0, rfl, Nat.zero_le _, fun j x hj => absurd hj (by omega)⟩
  case round =>
    obtain ⟨i, rfl, hi, hI⟩ := hrel
    by_cases hlt : i < n
    · obtain ⟨x, hx⟩ : ∃ x, l[i]? = some x := ⟨_, List.getElem?_eq_getElem (by rw [HN.out]; exact hlt)⟩
      obtain ⟨g, o, rfl, hg, hc⟩ := Q3.out i x hx
      have HX := hid hx
      have b1 : (0 : Int) ≤ (i : Int) := by omega
      have b2 : (i : Int) < (n : Int) := by omega
      have wi : IntKind.i64.wrap ((i : Int) + 1) = ((i + 1 : Nat) : Int) := by rw [IntWalk.i64_in _ ⟨by omega, by omega⟩]; omega
      obtain ⟨z, hz⟩ : ∃ z, p x = z := ⟨_, rfl⟩
      have C := fun W => hid (hz ▸ HF.out W x)
      have HZ := hid hz
      clear hx hz
      go_wp2_with fail
      refine (C _).out.mono ?_; rintro e w1 ⟨rfl, rfl⟩
      cases z
      · go_wp2_with fail
        go_round
        case rel => exact ⟨i + 1, by go_num, by omega, fun j y hj hy => by
          rcases Nat.lt_or_ge j i with h | h
          · exact hI.out j y h hy
          · obtain rfl : j = i := by omega
            rw [HX.out] at hy; cases hy; exact HZ.out⟩
        case measure => simp [intOf] <;> omega
      · have hA : l.any p = true := List.any_eq_true.2 ⟨x, List.mem_of_getElem? HX.out, HZ.out⟩
        have hfi : l.findIdx p = i := by
          have hil : i < l.length := by rw [HN.out]; exact hlt
          rw [List.findIdx_eq hil]
          refine ⟨?_, fun j hj => ?_⟩
          · have := HX.out; rw [List.getElem?_eq_getElem hil] at this; rw [Option.some.inj this]; exact HZ.out
          · exact hI.out j _ hj (List.getElem?_eq_getElem (Nat.lt_trans hj hil))
        have HE := hid (show idxZ p l = (i : Int) from by rw [idxZ, if_pos hA, hfi])
        clear hA hfi
        go_wp2_with fail
        go_ret
        exact ⟨by rw [HE.out]; rfl, rfl⟩
    · obtain rfl : i = n := by omega
      have hA : ¬ l.any p = true := fun h => by
        obtain ⟨x, hx, hp⟩ := List.any_eq_true.1 h
        obtain ⟨j, hj⟩ := List.getElem?_of_mem hx
        have := hI.out j x (by rw [← HN.out]; exact (List.getElem?_eq_some_iff.1 hj).1) hj
        rw [this] at hp; cases hp
      have HE := hid (show idxZ p l = -1 from by rw [idxZ, if_neg hA])
      have q0 : decide ((i : Int) < (i : Int)) = false := by simp
      clear hA hlt
      go_wp2_with fail
      go_ret
      exact ⟨by rw [HE.out]; rfl, rfl⟩
set_option maxRecDepth 100000 in
set_option maxHeartbeats 1000000 in
theorem s_ContainsFuncI (w : World) (v : Value) (l : List Int) (F : Nat) (p : Int → Bool) (hv : Row w v (zs l)) (hl : l.length ≤ 9223372036854775807) (hen : ∀ args w, (callFunc F args).run Tryz.prog w = .ok (.enter F args) w)
    (hF : ∀ W x, Calls Tryz.prog F #[.int .i64 x] W fun e w' => e = .returned (.bool (p x)) ∧ W = w') :
    Calls Tryz.prog 63 #[v, .func (.func F) #[] #[]] w fun e w' => e = .returned (.bool (l.any p)) ∧ w = w' := by
  have HI := hid (s_IndexFuncI w v l F p hv hl hen hF)
  have HB := hid (show decide (0 ≤ idxZ p l) = l.any p from by
    unfold idxZ
    cases h : l.any p
    · rw [if_neg (by simp)]; rfl
    · rw [if_pos rfl]; simp)
  rw [← HB.out]
  obtain ⟨a, c, rfl, -⟩ := hv.openZ
  generalize idxZ p l = z at *
  clear hF hv
  go_enter Tryz.func63, Tryz.ntmps63
  go_wp2_with fail
  refine HI.out.mono ?_; rintro e w1 ⟨rfl, rfl⟩
  go_wp2_with fail
  go_ret
  exact ⟨rfl, rfl⟩
theorem ch_clamped (w : World) (u : Int) (B : Nat) :
    Calls Tryz.prog 66 #[.int .i64 u, .int .i64 (-(B : Int)), .int .i64 (B : Int)] w fun e w' => e = .returned (.int .i64 (clp B u)) ∧ w = w' := by
  unfold clp
  go_enter Tryz.func66, Tryz.ntmps66
  go_wp2_with fail
  go_ret
  exact ⟨rfl, rfl⟩
end Go.Proofs.YtpehhgkghgbhiaaGreatDoor
namespace Go.Proofs.YtpehhgkghgbhiaaGreatDoor
open Go.RowKit
variable {P : Program} {ops : Array Oper} {Q : Exit → Act → World → Prop} {md : Region.Mode}
/-- An operation by its number, for the unifier to read. -/
def opAt : List Oper → Nat → Option Oper
  | [], _ => none
  | o :: _, 0 => some o
  | _ :: l, i + 1 => opAt l i
theorem opAt_get : ∀ (l : List Oper) (i : Nat) (o : Oper), opAt l i = some o → l.toArray[i]? = some o
  | [], _, _, h => by cases h
  | o :: _, 0, _, h => by simpa [opAt] using h
  | _ :: l, i + 1, o, h => by simpa using opAt_get l i o h
/-- The picked operations yield one after the other, in every world that meets S. -/
def wpPick (P : Program) (l : List Oper) (S : World → Prop) (L : Act → Prop) : List Nat → Act → Prop
  | [], a => L a
  | i :: rest, a => ∃ o, opAt l i = some o ∧ ∃ v, YieldsIf P l.toArray S o v a ∧ wpPick P l S L rest (a.put o.dst v)
/-- The picked operations may be taken one after the other. -/
def pickB (md : Region.Mode) (ops : Array Oper) : List Nat → Array Bool → Bool
  | [], _ => true
  | i :: is, listed => (Region.ready md ops listed).contains i && Region.free md ops listed i && pickB md ops is (listed.setIfInBounds i true)
def setL : List Nat → Array Bool → Array Bool
  | [], listed => listed
  | i :: is, listed => setL is (listed.setIfInBounds i true)
theorem held_pick {l : List Oper} {S : World → Prop} (hsel : Region.noSelect l.toArray = true) {g : Nat} {w : World} (hS : S w) : ∀ (is : List Nat) (listed : Array Bool) (a : Act), pickB md l.toArray is listed = true →
    wpPick P l S (fun a' => wpAnyH P md l.toArray (Only Q) S g (setL is listed) a' w) is a → wpAnyH P md l.toArray (Only Q) S (g + is.length) listed a w
  | [], _, _, _, h => h
  | i :: is, listed, a, hB, h => by
    simp only [pickB, Bool.and_eq_true] at hB
    obtain ⟨⟨hr, hf⟩, hB'⟩ := hB
    obtain ⟨o, ho, v, hy, hrest⟩ := h
    have hQ : ∀ c a w, Only Q (.panic c) (Act.put a o.dst v) w → Only Q (.panic c) a w := fun _ _ _ h => h
    exact wpAnyH_take (opAt_get _ _ _ ho) hsel hf hr hQ hy hS (held_pick hsel hS is _ _ hB' hrest)
/-- The region, in the plain walk. -/
theorem held_plain {id : Nat} {a : Act} {w : World} {l : List Oper} (is : List Nat) (g : Nat) (S : World → Prop) (hm : P.follows .mixedOrders = true) (hsel : Region.noSelect l.toArray = true) (hg : g + is.length = l.toArray.size) (hB : pickB .any l.toArray is (Array.replicate l.toArray.size false) = true) (hS : S w.drew)
    (h : wpPick P l S (fun a' => wpAnyH P .any l.toArray (Only Q) S g (setL is (Array.replicate l.toArray.size false)) a' w.drew) is a) : (Code.region id l.toArray true).wp P Q a w := by
  have h2 := held_pick (P := P) (md := .any) (Q := Q) (S := S) hsel (g := g) hS is (Array.replicate l.toArray.size false) a hB h
  rw [hg] at h2
  exact (wpIn_wide (n := 1)).1 (wpIn_region_any hm (any_plain _ _ _ _ (wpAny_of_held (S := S) _ _ _ _ h2)))
/-- More picks, within. -/
theorem held_more {l : List Oper} {S : World → Prop} {is : List Nat} {g fuel : Nat} {listed : Array Bool} {a : Act} {w : World} (hsel : Region.noSelect l.toArray = true) (hf : fuel = g + is.length) (hS : S w) (hB : pickB md l.toArray is listed = true)
    (h : wpPick P l S (fun a' => wpAnyH P md l.toArray (Only Q) S g (setL is listed) a' w) is a) : wpAnyH P md l.toArray (Only Q) S fuel listed a w := by
  rw [hf]
  exact held_pick hsel hS is listed a hB h
end Go.Proofs.YtpehhgkghgbhiaaGreatDoor
namespace Go.Proofs.YtpehhgkghgbhiaaGreatDoor
open Go.RowKit
open Go.Lib (decDigits nDigits)
set_option linter.unusedVariables false
set_option linter.unusedSimpArgs false
theorem NoInt.slice (a : Option Addr) (n c : Nat) : NoInt #[.slice a n c] := by
  intro i k x h
  rcases i with _ | i <;> simp at h
theorem NoInt.bool (m : Bool) : NoInt #[.bool m] := by
  intro i k x h
  rcases i with _ | i <;> simp at h
/-- What Pow's variables hold: the square sq, whether it fits, the limit. -/
structure PowS (w : World) (bs bf bl : Nat) (sq : Nat) (fits : Bool) : Prop where
  sq : ∃ a n c, Blk w bs #[.slice a n c] 120 ∧ IsN .u64 w (.slice a n c) sq
  fits : Blk w bf #[.bool fits] 4
  lim : Blk w bl #[.int .i64 4000] 3
  n1 : bs ≠ bf
  n2 : bs ≠ bl
  n3 : bf ≠ bl
set_option maxRecDepth 100000 in
set_option maxHeartbeats 1000000 in
theorem l_Pow1 (w : World) (bs bf bl sq B : Nat) (f : Bool) (h : PowS w bs bf bl sq f) (hs : B ≤ bs) (hf : B ≤ bf) (hB : B ≤ w.heap.size) (hlen : (limbs sq).length ≤ 100000) (hL : Lay w) (hLB : LayLt B) :
    Calls Tryz.prog 140 #[.pointer (some ⟨bs, 0, none⟩), .pointer (some ⟨bl, 0, none⟩), .pointer (some ⟨bf, 0, none⟩)] w fun e w' =>
      (∃ v, e = .returned v) ∧ PowS w' bs bf bl (sq * sq) (decide (nDigits (sq * sq) ≤ 4000)) ∧ (∀ k v x, IsN k w v x → IsN k w' v x) ∧ Below B w w' := by
  obtain ⟨⟨a, n, c, hbs, hv⟩, hbf, hbl, n1, n2, n3⟩ := h
  have c0 : w.cell? ⟨bs, 0, none⟩ = some (.slice a n c) := hbs.cell 0
  have c1 := hbs.free 0
  have c2 : w.cell? ⟨bl, 0, none⟩ = some (.int .i64 4000) := hbl.cell 0
  have HBS := hid hbs; have HBF := hid hbf; have HBL := hid hbl; have HV := hid hv; have N1 := hid n1; have N2 := hid n2; have N3 := hid n3
  have HS := hid hs; have HF := hid hf; have HB := hid hB; have HLEN := hid hlen; have HL := hid hL; have HLB := hid hLB
  have l2 := len_mul hlen hlen
  have HLM := hid (show (limbs (sq * sq)).length ≤ 1000000 by omega)
  obtain ⟨S, hS⟩ : ∃ S, sq * sq = S := ⟨_, rfl⟩
  have HM := fun V h => hid (l_Mul V (.slice a n c) (.slice a n c) sq sq h h (by omega) (by omega))
  rw [hS] at HM HLM ⊢
  clear hbs hv hbf hbl n1 n2 n3 hs hf hB hlen hL l2 hS hLB
  go_enter Tryz.func140, Tryz.ntmps140
  go_wp2_with fail
  refine (HM _ HV.out).out.mono ?_; rintro e w1 ⟨⟨v1, rfl, hv1⟩, hb1⟩
  obtain ⟨a1, k1, d1, rfl⟩ : ∃ a k d, v1 = .slice a k d := by
    obtain ⟨a, c, e, _⟩ := hv1.openI
    exact ⟨_, _, _, e⟩
  have S1 := hid (HBS.out.call hb1); have F1 := hid (HBF.out.call hb1); have T1 := hid (HBL.out.call hb1); have B1 := hid hb1; have V1 := hid hv1
  have e0 := S1.out.free 0
  have e1 := S1.out.cell 0
  simp at e1
  clear hb1 hv1 HM c0 c1 c2
  go_wp2_with fail
  obtain ⟨w2, hw2⟩ : ∃ w2, w1.setCell ⟨bs, 0, none⟩ (.slice a1 k1 d1) = w2 := ⟨_, rfl⟩
  have s2 : Blk w2 bs #[.slice a1 k1 d1] 120 := by rw [← hw2]; exact S1.out.set 0 _
  have f2 : Blk w2 bf #[.bool f] 4 := by rw [← hw2]; exact F1.out.other (fun e => N1.out e) _
  have t2 : Blk w2 bl #[.int .i64 4000] 3 := by rw [← hw2]; exact T1.out.other (fun e => N2.out e) _
  have v2 : IsN .u64 w2 (.slice a1 k1 d1) S := by rw [← hw2]; exact V1.out.setQ S1.out (NoInt.slice _ _ _) 0 _
  have k2 : ∀ k v x, IsN k w v x → IsN k w2 v x := fun k v x h => by rw [← hw2]; exact (h.call B1.out).setQ S1.out (NoInt.slice _ _ _) 0 _
  have b2 : Below B w w2 := by rw [← hw2]; exact (B1.out.mono HB.out).setCell HS.out _
  have hsz : w.heap.size ≤ w2.heap.size := by rw [← hw2]; simpa [World.setCell] using B1.out.size
  rw [hw2]
  have S2 := hid s2; have F2 := hid f2; have T2 := hid t2; have V2 := hid v2; have K2 := hid k2; have B2 := hid b2; have SZ := hid hsz
  have L2 : Hid (Lay w2) := HL.out.below b2 HLB.out
  clear s2 f2 t2 v2 k2 b2 hw2 e0 e1 hsz
  have hS : w2.drew.cell? ⟨bs, 0, none⟩ = some (.slice a1 k1 d1) ∧ w2.drew.cell? ⟨bl, 0, none⟩ = some (.int .i64 4000) := ⟨S2.out.cell 0, T2.out.cell 0⟩
  refine held_plain [0, 2] 3 (fun W' => W'.cell? ⟨bs, 0, none⟩ = some (.slice a1 k1 d1) ∧ W'.cell? ⟨bl, 0, none⟩ = some (.int .i64 4000)) (by kernel_rfl) (by kernel_rfl) (by kernel_rfl) (by kernel_rfl) hS ?_
  iterate 2
    refine ⟨_, rfl, ?_⟩
    apply Exists.intro
    refine ⟨.inl ⟨by rfl, ?_⟩, ?_⟩
    · (intro W' hW'; obtain ⟨q1, q2⟩ := hW'; go_simp; try (with_reducible rfl))
    (dsimp only [Act.put]; try simp only [List.setIfInBounds_toArray, List.set_cons_zero, List.set_cons_succ])
  clear hS
  refine held_one (i := 1) (by kernel_rfl) (by rfl) (by rfl) ?_
  go_wp2_with fail
  refine (l_Digits _ _ S (V2.out.call (Below.refl _ _).drew) (L2.out.call (Below.refl _ _).drew) HLM.out).mono ?_; rintro e w3 ⟨rfl, hb3⟩
  have B3 := hid (show Below w2.heap.size w2 w3 from (Below.refl _ _).drew.trans hb3)
  have S3 := hid (S2.out.call B3.out); have F3 := hid (F2.out.call B3.out); have T3 := hid (T2.out.call B3.out); have V3 := hid (V2.out.call B3.out)
  have hS : w3.cell? ⟨bs, 0, none⟩ = some (.slice a1 k1 d1) ∧ w3.cell? ⟨bl, 0, none⟩ = some (.int .i64 4000) := ⟨S3.out.cell 0, T3.out.cell 0⟩
  clear hb3
  go_wp2_with fail
  refine ⟨hS, ?_⟩
  refine held_more (is := [3]) (g := 1) (by kernel_rfl) rfl hS (by kernel_rfl) ?_
  iterate 1
    refine ⟨_, rfl, ?_⟩
    apply Exists.intro
    refine ⟨.inl ⟨by rfl, ?_⟩, ?_⟩
    · (intro W' hW'; clear hW'; go_simp; try (with_reducible rfl))
    (dsimp only [Act.put]; try simp only [List.setIfInBounds_toArray, List.set_cons_zero, List.set_cons_succ])
  refine held_one (i := 4) (by kernel_rfl) (by rfl) (by rfl) ?_
  have g0 := F3.out.free 0
  have g1 := F3.out.cell 0
  simp at g1
  clear hS
  go_wp2_with fail
  have s4 := S3.out.other (a := ⟨bf, 0, none⟩) (fun e => N1.out e.symm) (.bool (decide ((nDigits S : Int) ≤ 4000)))
  have f4 := F3.out.set 0 (.bool (decide ((nDigits S : Int) ≤ 4000)))
  have t4 := T3.out.other (a := ⟨bf, 0, none⟩) (fun e => N3.out e) (.bool (decide ((nDigits S : Int) ≤ 4000)))
  refine ⟨⟨s4.cell 0, t4.cell 0⟩, ?_⟩
  refine wpAnyH_done (by kernel_rfl) ?_ _
  simp only [Only]
  go_wp2_with fail
  go_end0
  refine ⟨⟨_, rfl⟩, ⟨⟨a1, k1, d1, s4, V3.out.setQ F3.out (NoInt.bool _) 0 _⟩, ?_, t4, N1.out, N2.out, N3.out⟩, ?_, ?_⟩
  · have e : decide ((nDigits S : Int) ≤ 4000) = decide (nDigits S ≤ 4000) := decide_eq_decide.2 (by omega)
    rw [← e]
    exact f4
  · intro k v x h
    exact ((K2.out k v x h).call B3.out).setQ F3.out (NoInt.bool _) 0 _
  · exact (B2.out.trans (B3.out.mono (Nat.le_trans HB.out SZ.out))).setCell HF.out _
end Go.Proofs.YtpehhgkghgbhiaaGreatDoor
