/- Walks: the program's limbs: Add. -/
import Derived.Test.YtikfgddgfddbaaaGreatDoorMs3
import Derived.Lib.JoinLaws
namespace Go.Proofs.YtikfgddgfddbaaaGreatDoor
open Go.RowKit
set_option linter.unusedVariables false

theorem room_nat (n : Nat) (hn : n ≤ 3000000) (W : World) : (Instr.makeSlice 100 (.int .i64 0) (.int .i64 (n : Int))).run Tryz.prog W = .ok (.slice (some ⟨W.heap.size, 0, none⟩) 0 n) (W.alloc (.cells (madeCells #[.int .u64 0] n) 112)) :=
  run_make_room (P := Tryz.prog) 100 112 (.int .u64 0) 8 Tryz.underlying100 (by kernel_rfl) rfl .i64 .i64 n (by omega) (by omega) W

theorem owns_room (w : World) (n : Nat) (hn : n ≤ 3000000) : (w.alloc (.cells (madeCells #[.int .u64 0] n) 112)).ownsRow w.heap.size 112 1 (.slice (some ⟨w.heap.size, 0, none⟩) 0 n) 0 [] :=
  World.ownsRow_made w _ n (Nat.le_refl _) (by unfold maxLen; omega) (by have := size_madeCells #[Value.int .u64 0] n; simpa using this)

set_option maxHeartbeats 4000000 in
theorem l_Add_ge (w : World) (v u : Value) (a b : Nat) (ha : IsN .u64 w v a) (hb : IsN .u64 w u b) (hle : (limbs b).length ≤ (limbs a).length) (hla : (limbs a).length ≤ 1000000) (hlb : (limbs b).length ≤ 1000000) :
    Calls Tryz.prog 150 #[v, u] w fun e w' => RetN .u64 (a + b) e w' ∧ Below w.heap.size w w' := by
  obtain ⟨i0, hi, hz0, hz1, hz2⟩ := info_parts info_u64
  obtain ⟨a1, c1, rfl, h1, h2, h3⟩ := ha.openI
  obtain ⟨a2, c2, rfl, k1, k2, k3⟩ := hb.openI
  have H3 := hid h3; have K3 := hid k3; clear h3 k3 ha hb
  obtain ⟨n, ea⟩ : ∃ n, (limbs a).length = n := ⟨_, rfl⟩
  obtain ⟨m, eb⟩ : ∃ m, (limbs b).length = m := ⟨_, rfl⟩
  rw [ea] at h1 hla hle ⊢
  rw [eb] at k1 hlb hle ⊢
  have HA := hid ea; have HB := hid eb
  clear ea eb
  have q0 : decide (n < m) = false := by simp; omega
  have hmk : ∀ W : World, (Instr.makeSlice 100 (.int .i64 0) (.int .i64 ((n : Int) + 1))).run Tryz.prog W = .ok (.slice (some ⟨W.heap.size, 0, none⟩) 0 (n + 1)) (W.alloc (.cells (madeCells #[.int .u64 0] (n + 1)) 112)) := fun W => by
    have := room_nat (n + 1) (by omega) W
    rwa [Int.natCast_add] at this
  have hmn : m ≤ n := by omega
  clear hle
  go_enter Tryz.func150, Tryz.ntmps150
  go_wp2_with fail
  clear hmk q0
  go_loopw [5, 6, 7, 8, 22] (fun o cc jj nn ii wr => ∃ (s : List Nat) (c : Nat), ii = .int .i64 s.length ∧ cc = .int .u64 c ∧ c ≤ 1 ∧ s.length ≤ n ∧ Hid (PlusI a b s c) ∧ Hid (wr.ownsRow w.heap.size 112 1 o s.length (ints .u64 s)) ∧ Hid (Below w.heap.size w wr))
    (fun _ _ _ _ ii _ => n - (intOf ii).toNat)
  case atStart => exact ⟨[], 0, rfl, rfl, by omega, by simp, PlusI.start a b, owns_room w (n + 1) (by omega), (Below.refl _ _).alloc (Nat.le_refl _) _⟩
  case round =>
    obtain ⟨s, c, rfl, rfl, hc1, hs1, hP, hO, hB⟩ := hrel
    obtain ⟨ao, co, rfl⟩ := owns_ex hO.out
    by_cases hA : s.length < n
    · obtain ⟨x, hx⟩ : ∃ x, (limbs a)[s.length]? = some x := ⟨_, List.getElem?_eq_getElem (by rw [HA.out]; exact hA)⟩
      obtain ⟨g, og, rfl, hg, hc⟩ := H3.out _ x hx
      have hc' := (hB.out.cell (p := ⟨g, og + s.length, none⟩) hg).trans hc
      have hxl := (sm_limbs a).get hx
      have HX := hid hx; clear hx hc
      have HN := hid (hP.out.next (by rw [HA.out]; exact .inl hA))
      by_cases hB' : s.length < m
      · obtain ⟨y, hy⟩ : ∃ y, (limbs b)[s.length]? = some y := ⟨_, List.getElem?_eq_getElem (by rw [HB.out]; exact hB')⟩
        obtain ⟨g', og', rfl, hg', hd⟩ := K3.out _ y hy
        have hd' := (hB.out.cell (p := ⟨g', og' + s.length, none⟩) hg').trans hd
        have hyl := (sm_limbs b).get hy
        rw [getD_of HX.out, getD_of hy] at HN
        clear hy hd
        go_wp2_with (at_builtin; refine wpList_append_own _ rfl _ _ 100 rfl w.heap.size 112 i0 (.int .u64 0) 1 8 Tryz.underlying100 hi hz0 hz1 hz2 rfl (by decide) _ s.length _ rfl (hO.out.alloc _) ⟨wr.heap.size, 0, none⟩ 1 1 [.int .u64 (((x : Int) + (c : Int) + (y : Int)) % 1000000000)] rfl rfl (cell_one_new wr (.int .u64 (((x : Int) + (c : Int) + (y : Int)) % 1000000000)) 112) (by simp [Value.oneCell']) (by unfold maxLen; omega) (by omega) (by have := hB.out.size; simp; omega) ?_; intro v' w3 hown3 hgrow3 _; have HO3 := hid hown3; have HG3 := hid hgrow3; clear hown3 hgrow3)
        have hz : (((x : Int) + (c : Int) + (y : Int)) % 1000000000) = (((x + c + y) % 1000000000 : Nat) : Int) := by omega
        rw [hz] at HO3
        obtain ⟨n1, n2⟩ := own_next hO.out hB.out HO3.out HG3.out
        have N1 := hid n1; have N2 := hid n2; clear n1 n2 hz HO3 HG3
        obtain ⟨a3, k3, rfl⟩ := owns_ex N1.out
        go_wp2_with fail
        go_roundw
        case rel => exact ⟨s ++ [(x + c + y) % 1000000000], (x + c + y) / 1000000000, by simp, by go_num, HN.out.c1, by simp <;> omega, HN, N1, N2⟩
        case measure => simp [intOf] <;> omega
      · rw [getD_of HX.out, getD_none (by rw [HB.out]; omega)] at HN
        go_wp2_with (at_builtin; refine wpList_append_own _ rfl _ _ 100 rfl w.heap.size 112 i0 (.int .u64 0) 1 8 Tryz.underlying100 hi hz0 hz1 hz2 rfl (by decide) _ s.length _ rfl (hO.out.alloc _) ⟨wr.heap.size, 0, none⟩ 1 1 [.int .u64 (((x : Int) + (c : Int)) % 1000000000)] rfl rfl (cell_one_new wr (.int .u64 (((x : Int) + (c : Int)) % 1000000000)) 112) (by simp [Value.oneCell']) (by unfold maxLen; omega) (by omega) (by have := hB.out.size; simp; omega) ?_; intro v' w3 hown3 hgrow3 _; have HO3 := hid hown3; have HG3 := hid hgrow3; clear hown3 hgrow3)
        have hz : (((x : Int) + (c : Int)) % 1000000000) = (((x + c + 0) % 1000000000 : Nat) : Int) := by omega
        rw [hz] at HO3
        obtain ⟨n1, n2⟩ := own_next hO.out hB.out HO3.out HG3.out
        have N1 := hid n1; have N2 := hid n2; clear n1 n2 hz HO3 HG3
        obtain ⟨a3, k3, rfl⟩ := owns_ex N1.out
        go_wp2_with fail
        go_roundw
        case rel => exact ⟨s ++ [(x + c + 0) % 1000000000], (x + c + 0) / 1000000000, by simp, by go_num, HN.out.c1, by simp <;> omega, HN, N1, N2⟩
        case measure => simp [intOf] <;> omega
    · obtain rfl : s.length = n := by omega
      rcases (show c = 0 ∨ c = 1 by omega) with rfl | rfl
      · have hs := hid (hP.out.done (by rw [HA.out]; exact hA) (by rw [HB.out]; omega) rfl)
        go_wp2_with fail
        go_ret
        exact ⟨⟨_, rfl, owns_isN hO.out (by rw [hs.out])⟩, hB.out⟩
      · have HN := hid (hP.out.next (by exact .inr (.inr (by omega))))
        rw [getD_none (by rw [HA.out]; omega), getD_none (by rw [HB.out]; omega)] at HN
        have HD := hid (HN.out.done (by simp [HA.out]) (by simp [HB.out]; omega) rfl)
        go_wp2_with (at_builtin; refine wpList_append_own _ rfl _ _ 100 rfl w.heap.size 112 i0 (.int .u64 0) 1 8 Tryz.underlying100 hi hz0 hz1 hz2 rfl (by decide) _ s.length _ rfl (hO.out.alloc _) ⟨wr.heap.size, 0, none⟩ 1 1 [.int .u64 (1)] rfl rfl (cell_one_new wr (.int .u64 (1)) 112) (by simp [Value.oneCell']) (by unfold maxLen; omega) (by omega) (by have := hB.out.size; simp; omega) ?_; intro v' w3 hown3 hgrow3 _; have HO3 := hid hown3; have HG3 := hid hgrow3; clear hown3 hgrow3)
        have hz : (1) = (((0 + 1 + 0) % 1000000000 : Nat) : Int) := by omega
        rw [hz] at HO3
        obtain ⟨n1, n2⟩ := own_next hO.out hB.out HO3.out HG3.out
        have N1 := hid n1; have N2 := hid n2; clear n1 n2 hz HO3 HG3
        obtain ⟨a3, k3, rfl⟩ := owns_ex N1.out
        go_wp2_with fail
        go_ret
        exact ⟨⟨_, rfl, owns_isN N1.out (by rw [HD.out])⟩, N2.out⟩

set_option maxHeartbeats 4000000 in
theorem l_Add_lt (w : World) (v u : Value) (a b : Nat) (ha : IsN .u64 w v a) (hb : IsN .u64 w u b) (hle : (limbs a).length < (limbs b).length) (hla : (limbs a).length ≤ 1000000) (hlb : (limbs b).length ≤ 1000000) :
    Calls Tryz.prog 150 #[v, u] w fun e w' => RetN .u64 (a + b) e w' ∧ Below w.heap.size w w' := by
  obtain ⟨i0, hi, hz0, hz1, hz2⟩ := info_parts info_u64
  obtain ⟨a1, c1, rfl, h1, h2, h3⟩ := hb.openI
  obtain ⟨a2, c2, rfl, k1, k2, k3⟩ := ha.openI
  have H3 := hid h3; have K3 := hid k3; clear h3 k3 ha hb
  obtain ⟨n, ea⟩ : ∃ n, (limbs b).length = n := ⟨_, rfl⟩
  obtain ⟨m, eb⟩ : ∃ m, (limbs a).length = m := ⟨_, rfl⟩
  rw [ea] at h1 hlb hle ⊢
  rw [eb] at k1 hla hle ⊢
  have HA := hid ea; have HB := hid eb
  clear ea eb
  have q0 : decide (m < n) = true := by simp; omega
  have hmk : ∀ W : World, (Instr.makeSlice 100 (.int .i64 0) (.int .i64 ((n : Int) + 1))).run Tryz.prog W = .ok (.slice (some ⟨W.heap.size, 0, none⟩) 0 (n + 1)) (W.alloc (.cells (madeCells #[.int .u64 0] (n + 1)) 112)) := fun W => by
    have := room_nat (n + 1) (by omega) W
    rwa [Int.natCast_add] at this
  have hmn : m ≤ n := by omega
  clear hle
  go_enter Tryz.func150, Tryz.ntmps150
  go_wp2_with fail
  clear hmk q0
  go_loopw [5, 6, 7, 8, 22] (fun o cc jj nn ii wr => ∃ (s : List Nat) (c : Nat), ii = .int .i64 s.length ∧ cc = .int .u64 c ∧ c ≤ 1 ∧ s.length ≤ n ∧ Hid (PlusI b a s c) ∧ Hid (wr.ownsRow w.heap.size 112 1 o s.length (ints .u64 s)) ∧ Hid (Below w.heap.size w wr))
    (fun _ _ _ _ ii _ => n - (intOf ii).toNat)
  case atStart => exact ⟨[], 0, rfl, rfl, by omega, by simp, PlusI.start b a, owns_room w (n + 1) (by omega), (Below.refl _ _).alloc (Nat.le_refl _) _⟩
  case round =>
    obtain ⟨s, c, rfl, rfl, hc1, hs1, hP, hO, hB⟩ := hrel
    obtain ⟨ao, co, rfl⟩ := owns_ex hO.out
    by_cases hA : s.length < n
    · obtain ⟨x, hx⟩ : ∃ x, (limbs b)[s.length]? = some x := ⟨_, List.getElem?_eq_getElem (by rw [HA.out]; exact hA)⟩
      obtain ⟨g, og, rfl, hg, hc⟩ := H3.out _ x hx
      have hc' := (hB.out.cell (p := ⟨g, og + s.length, none⟩) hg).trans hc
      have hxl := (sm_limbs b).get hx
      have HX := hid hx; clear hx hc
      have HN := hid (hP.out.next (by rw [HA.out]; exact .inl hA))
      by_cases hB' : s.length < m
      · obtain ⟨y, hy⟩ : ∃ y, (limbs a)[s.length]? = some y := ⟨_, List.getElem?_eq_getElem (by rw [HB.out]; exact hB')⟩
        obtain ⟨g', og', rfl, hg', hd⟩ := K3.out _ y hy
        have hd' := (hB.out.cell (p := ⟨g', og' + s.length, none⟩) hg').trans hd
        have hyl := (sm_limbs a).get hy
        rw [getD_of HX.out, getD_of hy] at HN
        clear hy hd
        go_wp2_with (at_builtin; refine wpList_append_own _ rfl _ _ 100 rfl w.heap.size 112 i0 (.int .u64 0) 1 8 Tryz.underlying100 hi hz0 hz1 hz2 rfl (by decide) _ s.length _ rfl (hO.out.alloc _) ⟨wr.heap.size, 0, none⟩ 1 1 [.int .u64 (((x : Int) + (c : Int) + (y : Int)) % 1000000000)] rfl rfl (cell_one_new wr (.int .u64 (((x : Int) + (c : Int) + (y : Int)) % 1000000000)) 112) (by simp [Value.oneCell']) (by unfold maxLen; omega) (by omega) (by have := hB.out.size; simp; omega) ?_; intro v' w3 hown3 hgrow3 _; have HO3 := hid hown3; have HG3 := hid hgrow3; clear hown3 hgrow3)
        have hz : (((x : Int) + (c : Int) + (y : Int)) % 1000000000) = (((x + c + y) % 1000000000 : Nat) : Int) := by omega
        rw [hz] at HO3
        obtain ⟨n1, n2⟩ := own_next hO.out hB.out HO3.out HG3.out
        have N1 := hid n1; have N2 := hid n2; clear n1 n2 hz HO3 HG3
        obtain ⟨a3, k3, rfl⟩ := owns_ex N1.out
        go_wp2_with fail
        go_roundw
        case rel => exact ⟨s ++ [(x + c + y) % 1000000000], (x + c + y) / 1000000000, by simp, by go_num, HN.out.c1, by simp <;> omega, HN, N1, N2⟩
        case measure => simp [intOf] <;> omega
      · rw [getD_of HX.out, getD_none (by rw [HB.out]; omega)] at HN
        go_wp2_with (at_builtin; refine wpList_append_own _ rfl _ _ 100 rfl w.heap.size 112 i0 (.int .u64 0) 1 8 Tryz.underlying100 hi hz0 hz1 hz2 rfl (by decide) _ s.length _ rfl (hO.out.alloc _) ⟨wr.heap.size, 0, none⟩ 1 1 [.int .u64 (((x : Int) + (c : Int)) % 1000000000)] rfl rfl (cell_one_new wr (.int .u64 (((x : Int) + (c : Int)) % 1000000000)) 112) (by simp [Value.oneCell']) (by unfold maxLen; omega) (by omega) (by have := hB.out.size; simp; omega) ?_; intro v' w3 hown3 hgrow3 _; have HO3 := hid hown3; have HG3 := hid hgrow3; clear hown3 hgrow3)
        have hz : (((x : Int) + (c : Int)) % 1000000000) = (((x + c + 0) % 1000000000 : Nat) : Int) := by omega
        rw [hz] at HO3
        obtain ⟨n1, n2⟩ := own_next hO.out hB.out HO3.out HG3.out
        have N1 := hid n1; have N2 := hid n2; clear n1 n2 hz HO3 HG3
        obtain ⟨a3, k3, rfl⟩ := owns_ex N1.out
        go_wp2_with fail
        go_roundw
        case rel => exact ⟨s ++ [(x + c + 0) % 1000000000], (x + c + 0) / 1000000000, by simp, by go_num, HN.out.c1, by simp <;> omega, HN, N1, N2⟩
        case measure => simp [intOf] <;> omega
    · obtain rfl : s.length = n := by omega
      rcases (show c = 0 ∨ c = 1 by omega) with rfl | rfl
      · have hs := hid (hP.out.done (by rw [HA.out]; exact hA) (by rw [HB.out]; omega) rfl)
        go_wp2_with fail
        go_ret
        exact ⟨⟨_, rfl, owns_isN hO.out (by rw [hs.out, Nat.add_comm])⟩, hB.out⟩
      · have HN := hid (hP.out.next (by exact .inr (.inr (by omega))))
        rw [getD_none (by rw [HA.out]; omega), getD_none (by rw [HB.out]; omega)] at HN
        have HD := hid (HN.out.done (by simp [HA.out]) (by simp [HB.out]; omega) rfl)
        go_wp2_with (at_builtin; refine wpList_append_own _ rfl _ _ 100 rfl w.heap.size 112 i0 (.int .u64 0) 1 8 Tryz.underlying100 hi hz0 hz1 hz2 rfl (by decide) _ s.length _ rfl (hO.out.alloc _) ⟨wr.heap.size, 0, none⟩ 1 1 [.int .u64 (1)] rfl rfl (cell_one_new wr (.int .u64 (1)) 112) (by simp [Value.oneCell']) (by unfold maxLen; omega) (by omega) (by have := hB.out.size; simp; omega) ?_; intro v' w3 hown3 hgrow3 _; have HO3 := hid hown3; have HG3 := hid hgrow3; clear hown3 hgrow3)
        have hz : (1) = (((0 + 1 + 0) % 1000000000 : Nat) : Int) := by omega
        rw [hz] at HO3
        obtain ⟨n1, n2⟩ := own_next hO.out hB.out HO3.out HG3.out
        have N1 := hid n1; have N2 := hid n2; clear n1 n2 hz HO3 HG3
        obtain ⟨a3, k3, rfl⟩ := owns_ex N1.out
        go_wp2_with fail
        go_ret
        exact ⟨⟨_, rfl, owns_isN N1.out (by rw [HD.out, Nat.add_comm])⟩, N2.out⟩

/-- A sum. -/
theorem l_Add (w : World) (v u : Value) (a b : Nat) (ha : IsN .u64 w v a) (hb : IsN .u64 w u b) (hla : (limbs a).length ≤ 1000000) (hlb : (limbs b).length ≤ 1000000) :
    Calls Tryz.prog 150 #[v, u] w fun e w' => RetN .u64 (a + b) e w' ∧ Below w.heap.size w w' := by
  by_cases h : (limbs b).length ≤ (limbs a).length
  · exact l_Add_ge w v u a b ha hb h hla hlb
  · exact l_Add_lt w v u a b ha hb (by omega) hla hlb
end Go.Proofs.YtikfgddgfddbaaaGreatDoor

/- Walks: the program's limbs: Sub. -/
namespace Go.Proofs.YtikfgddgfddbaaaGreatDoor
open Go.RowKit
set_option linter.unusedVariables false

/-- What the loop of the difference holds where it writes into an array: the limbs s have been written. -/
structure SubA (a b i c : Nat) (o : List Nat) : Prop where
  len : o.length = (limbs a).length
  inv : MinusI a b (o.take i) c

theorem SubA.start (a b : Nat) : SubA a b 0 0 (List.replicate (limbs a).length 0) := ⟨by simp, by rw [List.take_zero]; exact MinusI.start a b⟩

theorem SubA.next {a b i c z c' : Nat} {o : List Nat} (h : SubA a b i c o) (hi : i < (limbs a).length) (hz : (limbs a).getD i 0 + 1000000000 * c' = z + c + (limbs b).getD i 0) (h1 : z < 1000000000) (h2 : c' ≤ 1) : SubA a b (i + 1) c' (o.set i z) := by
  have hl : i < o.length := by rw [h.len]; exact hi
  have hti : (o.take i).length = i := List.length_take_of_le (by omega)
  refine ⟨by rw [List.length_set, h.len], ?_⟩
  have := h.inv.next (z := z) (c' := c') (by rw [hti]; exact hz) h1 h2
  rwa [show (o.set i z).take (i + 1) = o.take i ++ [z] from ?_]
  rw [List.take_succ_eq_append_getElem (by simpa using hl), List.take_set_of_le (Nat.le_refl _)]
  simp

theorem SubA.done {a b c : Nat} {o : List Nat} (h : SubA a b (limbs a).length c o) (hle : b ≤ a) : val o = a - b ∧ Sm o := by
  have ht : o.take (limbs a).length = o := List.take_of_length_le (by rw [h.len]; exact Nat.le_refl _)
  have hi := h.inv
  rw [ht] at hi
  exact ⟨hi.done h.len hle, hi.sm⟩

set_option maxRecDepth 100000 in
set_option maxHeartbeats 4000000 in
theorem l_Sub (w : World) (v u : Value) (a b : Nat) (ha : IsN .u64 w v a) (hb : IsN .u64 w u b) (hle : b ≤ a) (hla : (limbs a).length ≤ 1000000) :
    Calls Tryz.prog 128 #[v, u] w fun e w' => RetN .u64 (a - b) e w' ∧ Below w.heap.size w w' := by
  obtain ⟨a1, c1, rfl, h1, h2, h3⟩ := ha.openI
  obtain ⟨a2, c2, rfl, k1, k2, k3⟩ := hb.openI
  have H3 := hid h3; have K3 := hid k3; clear h3 k3 ha hb
  have hmn := limbs_length_mono hle
  obtain ⟨n, ea⟩ : ∃ n, (limbs a).length = n := ⟨_, rfl⟩
  obtain ⟨m, eb⟩ : ∃ m, (limbs b).length = m := ⟨_, rfl⟩
  rw [ea] at h1 hla hmn ⊢
  rw [eb] at k1 hmn ⊢
  have HA := hid ea; have HB := hid eb; have HL := hid hle
  clear ea eb hle
  have hmk := fun W => make_nat n (by omega) W
  go_enter Tryz.func128, Tryz.ntmps128
  go_wp2_with fail
  clear hmk
  go_loopw [6, 7, 8, 9, 15] (fun cc s7 s8 s9 ii wr => ∃ (i c : Nat) (o : List Nat), ii = .int .i64 i ∧ cc = .int .u64 c ∧ c ≤ 1 ∧ i ≤ n ∧ Hid (SubA a b i c o) ∧ Hid (Arr .u64 112 wr w.heap.size o) ∧ Hid (Below w.heap.size w wr))
    (fun _ _ _ _ ii _ => n - (intOf ii).toNat)
  case atStart => exact ⟨0, 0, _, rfl, rfl, by omega, by omega, SubA.start a b, by rw [HA.out]; exact Arr.made w .u64 112 n, (Below.refl _ _).alloc (Nat.le_refl _) _⟩
  case round =>
    obtain ⟨i, c, o, rfl, rfl, hc1, hin, hS, hO, hB⟩ := hrel
    have hol := hid (show o.length = n from by rw [hS.out.len, HA.out])
    by_cases hA : i < n
    · obtain ⟨x, hx⟩ : ∃ x, (limbs a)[i]? = some x := ⟨_, List.getElem?_eq_getElem (by rw [HA.out]; exact hA)⟩
      obtain ⟨g, og, rfl, hg, hc⟩ := H3.out _ x hx
      have hc' := (hB.out.cell (p := ⟨g, og + i, none⟩) hg).trans hc
      have hxl := (sm_limbs a).get hx
      have HX := hid hx; clear hx hc
      obtain ⟨z0, hz0⟩ : ∃ z, o[i]? = some z := ⟨_, List.getElem?_eq_getElem (by rw [hol.out]; exact hA)⟩
      have d3 := hO.out.cell hz0
      have d4 := hO.out.free i
      clear hz0
      by_cases hB' : i < m
      · obtain ⟨y, hy⟩ : ∃ y, (limbs b)[i]? = some y := ⟨_, List.getElem?_eq_getElem (by rw [HB.out]; exact hB')⟩
        obtain ⟨g', og', rfl, hg', hd⟩ := K3.out _ y hy
        have hd' := (hB.out.cell (p := ⟨g', og' + i, none⟩) hg').trans hd
        have hyl := (sm_limbs b).get hy
        have HY := hid hy; clear hy hd
        by_cases hneg : x < c + y
        · have q1 : decide ((x : Int) < (c : Int) + (y : Int)) = true := by simp; omega
          have HN := hid (hS.out.next (z := x + 1000000000 - (c + y)) (c' := 1) (by rw [HA.out]; exact hA) (by rw [getD_of HX.out, getD_of HY.out]; omega) (by omega) (by omega))
          go_wp2_with fail
          go_roundw
          case rel =>
            have hz : ((x : Int) + 1000000000 - ((c : Int) + y)) = ((x + 1000000000 - (c + y) : Nat) : Int) := by omega
            exact ⟨i + 1, 1, _, by go_num, rfl, by omega, by omega, HN, by rw [hz]; exact hO.out.set i _, below_set hB.out (Nat.le_refl _) _⟩
          case measure => simp [intOf] <;> omega
        · have q1 : decide ((x : Int) < (c : Int) + (y : Int)) = false := by simp; omega
          have HN := hid (hS.out.next (z := x - (c + y)) (c' := 0) (by rw [HA.out]; exact hA) (by rw [getD_of HX.out, getD_of HY.out]; omega) (by omega) (by omega))
          go_wp2_with fail
          go_roundw
          case rel =>
            have hz : ((x : Int) - ((c : Int) + y)) = ((x - (c + y) : Nat) : Int) := by omega
            exact ⟨i + 1, 0, _, by go_num, rfl, by omega, by omega, HN, by rw [hz]; exact hO.out.set i _, below_set hB.out (Nat.le_refl _) _⟩
          case measure => simp [intOf] <;> omega
      · by_cases hneg : x < c
        · have q1 : decide ((x : Int) < (c : Int)) = true := by simp; omega
          have HN := hid (hS.out.next (z := x + 1000000000 - c) (c' := 1) (by rw [HA.out]; exact hA) (by rw [getD_of HX.out, getD_none (by rw [HB.out]; omega)]; omega) (by omega) (by omega))
          go_wp2_with fail
          go_roundw
          case rel =>
            have hz : ((x : Int) + 1000000000 - (c : Int)) = ((x + 1000000000 - c : Nat) : Int) := by omega
            exact ⟨i + 1, 1, _, by go_num, rfl, by omega, by omega, HN, by rw [hz]; exact hO.out.set i _, below_set hB.out (Nat.le_refl _) _⟩
          case measure => simp [intOf] <;> omega
        · have q1 : decide ((x : Int) < (c : Int)) = false := by simp; omega
          have HN := hid (hS.out.next (z := x - c) (c' := 0) (by rw [HA.out]; exact hA) (by rw [getD_of HX.out, getD_none (by rw [HB.out]; omega)]; omega) (by omega) (by omega))
          go_wp2_with fail
          go_roundw
          case rel =>
            have hz : ((x : Int) - (c : Int)) = ((x - c : Nat) : Int) := by omega
            exact ⟨i + 1, 0, _, by go_num, rfl, by omega, by omega, HN, by rw [hz]; exact hO.out.set i _, below_set hB.out (Nat.le_refl _) _⟩
          case measure => simp [intOf] <;> omega
    · obtain rfl : i = n := by omega
      have hv := hid (show val o = a - b ∧ Sm o from SubA.done (by have := hS.out; rw [← HA.out] at this; exact this) HL.out)
      have hr := hid (show Row wr (.slice (some ⟨w.heap.size, 0, none⟩) i i) (ints .u64 o) from by
        have := hO.out.row (n := i) (c := i) (by rw [hol.out]; exact Nat.le_refl _) (Nat.le_refl _) (by unfold maxLen; omega)
        rwa [List.take_of_length_le (by rw [hol.out]; exact Nat.le_refl _)] at this)
      go_wp2_with (go_at_call 136; refine (l_trim _ _ o hv.out.2 hr.out).mono ?_; rintro e w1 ⟨⟨v1, rfl, hv1⟩, rfl⟩)
      go_ret
      exact ⟨⟨v1, rfl, by rw [← hv.out.1]; exact hv1⟩, hB.out⟩
end Go.Proofs.YtikfgddgfddbaaaGreatDoor

/- Walks: nat.pair; nat.Add, Sub, Mul, Cmp. -/
namespace Go.Proofs.YtikfgddgfddbaaaGreatDoor
open Go.RowKit Go.Shelf
open Go.Lib (decDigits nDigits)
set_option linter.unusedVariables false

/-- The text and the error of an operation on two texts that gives R with the error x. -/
def pairB (R : ByteArray) (s t : ByteArray) : ByteArray := if errN s.data.toList = 0 ∧ errN t.data.toList = 0 then R else ⟨#[]⟩
def pairE (x : Int) (s t : ByteArray) : Int := if errN s.data.toList = 0 then (if errN t.data.toList = 0 then x else errN t.data.toList) else errN s.data.toList

theorem errN_dig {s : ByteArray} (h : errN s.data.toList = 0) : allDig s.data.toList ∧ s.size ≤ 4000 ∧ (limbs (bN s)).length ≤ 1000 := by
  obtain ⟨n, hn, h4⟩ := errN_zero.1 h
  have hd : allDig s.data.toList := by rw [hn]; exact allDig_dec n
  have hs : s.size ≤ 4000 := by
    have e : s.data.toList.length = s.size := Array.length_toList
    rw [← e, hn, Lib.decDigits_length]; exact h4
  refine ⟨hd, hs, ?_⟩
  have e : s.data.toList.length = s.size := Array.length_toList
  exact dv_limbs hd (by omega)

set_option maxRecDepth 100000 in
set_option maxHeartbeats 1000000 in
theorem n_pair (w : World) (s t : ByteArray) (F : Nat) (R : ByteArray) (x : Int) (hs : s.size ≤ 1000000) (ht : t.size ≤ 1000000) (hL : Lay w)
    (hen : ∀ args w, (callFunc F args).run Tryz.prog w = .ok (.enter F args) w)
    (hF : ∀ W v u, errN s.data.toList = 0 → errN t.data.toList = 0 → IsN .u64 W v (bN s) → IsN .u64 W u (bN t) → Lay W → Calls Tryz.prog F #[v, u] W fun e w' => e = .returned (.tuple #[.string R, .int .i64 x]) ∧ Below W.heap.size W w') :
    Calls Tryz.prog 125 #[.string s, .string t, .func (.func F) #[] #[]] w fun e w' => e = .returned (.tuple #[.string (pairB R s t), .int .i64 (pairE x s t)]) ∧ Below w.heap.size w w' := by
  have HS := fun W => hid (n_Check W s (by omega))
  have HT := fun W => hid (n_Check W t (by omega))
  have HL := hid hL
  have HF := hid hF
  clear hL hF
  by_cases h1 : errN s.data.toList = 0
  · by_cases h2 : errN t.data.toList = 0
    · have e1 : pairB R s t = R := if_pos ⟨h1, h2⟩
      have e2 : pairE x s t = x := by rw [pairE, if_pos h1, if_pos h2]
      rw [e1, e2]
      rw [h1] at HS
      rw [h2] at HT
      obtain ⟨d1, d2, -⟩ := errN_dig h1
      obtain ⟨d3, d4, -⟩ := errN_dig h2
      have P1 := fun W => hid (l_Parse W s d1 (by omega))
      have P2 := fun W => hid (l_Parse W t d3 (by omega))
      have H1 := hid h1; have H2 := hid h2
      have fe : firstE 0 0 = 0 := rfl
      clear h1 h2 d1 d2 d3 d4 e1 e2
      go_enter Tryz.func125, Tryz.ntmps125
      go_wp2_with fail
      refine (HS _).out.mono ?_; rintro e w1 ⟨rfl, hb1⟩
      have y1 := hid hb1; clear hb1
      go_wp2_with fail
      refine (HT _).out.mono ?_; rintro e w2 ⟨rfl, hb2⟩
      have y2 := hid (bnext y1.out hb2); clear hb2
      go_wp2_with fail
      refine (n_first _ _ 0 0 ?_ ?_).mono ?_
      · exact (Blk.new _ _ _).cell 0
      · exact (Blk.new _ _ _).cell 1
      rintro e w3 ⟨rfl, rfl⟩
      have y3 := hid (y2.out.alloc y2.out.size (.cells #[.int .i64 0, .int .i64 0] 27))
      rw [fe]
      go_wp2_with fail
      refine (P1 _).out.mono ?_; rintro e w4 ⟨⟨v4, rfl, hv4⟩, hb4⟩
      have y4 := hid (bnext y3.out hb4); have N4 := hid hv4; clear hb4 hv4
      go_wp2_with fail
      refine (P2 _).out.mono ?_; rintro e w5 ⟨⟨v5, rfl, hv5⟩, hb5⟩
      have y5 := hid (bnext y4.out hb5); have N5 := hid (N4.out.call hb5); have D5 := hid hv5; clear hb5 hv5
      go_wp2_with fail
      refine (HF.out _ _ _ H1.out H2.out N5.out D5.out (HL.out.call y5.out)).mono ?_; rintro e w6 ⟨rfl, hb6⟩
      have y6 := hid (bnext y5.out hb6); clear hb6
      go_wp2_with fail
      go_ret2
      exact ⟨rfl, y6.out⟩
    · have e1 : pairB R s t = ⟨#[]⟩ := if_neg (fun h => h2 h.2)
      have e2 : pairE x s t = errN t.data.toList := by rw [pairE, if_pos h1, if_neg h2]
      rw [e1, e2]
      rw [h1] at HS
      obtain ⟨y, hy⟩ : ∃ y, errN t.data.toList = y := ⟨_, rfl⟩
      rw [hy] at HT ⊢ h2
      have fe : firstE 0 y = y := rfl
      have q0 : (y == 0) = false := by simpa using h2
      have q1 : (y != 0) = true := by simpa using h2
      clear h1 e1 e2 hy
      go_enter Tryz.func125, Tryz.ntmps125
      go_wp2_with fail
      refine (HS _).out.mono ?_; rintro e w1 ⟨rfl, hb1⟩
      have y1 := hid hb1; clear hb1
      go_wp2_with fail
      refine (HT _).out.mono ?_; rintro e w2 ⟨rfl, hb2⟩
      have y2 := hid (bnext y1.out hb2); clear hb2
      go_wp2_with fail
      refine (n_first _ _ 0 y ?_ ?_).mono ?_
      · exact (Blk.new _ _ _).cell 0
      · exact (Blk.new _ _ _).cell 1
      rintro e w3 ⟨rfl, rfl⟩
      have y3 := hid (y2.out.alloc y2.out.size (.cells #[.int .i64 0, .int .i64 y] 27))
      rw [fe]
      go_wp2_with fail
      go_ret2
      exact ⟨rfl, y3.out⟩
  · have e1 : pairB R s t = ⟨#[]⟩ := if_neg (fun h => h1 h.1)
    have e2 : pairE x s t = errN s.data.toList := by rw [pairE, if_neg h1]
    rw [e1, e2]
    obtain ⟨y, hy⟩ : ∃ y, errN s.data.toList = y := ⟨_, rfl⟩
    obtain ⟨z, hz⟩ : ∃ z, errN t.data.toList = z := ⟨_, rfl⟩
    rw [hy] at HS ⊢ h1
    rw [hz] at HT
    have fe : firstE y z = y := if_neg h1
    have q0 : (y == 0) = false := by simpa using h1
    have q1 : (y != 0) = true := by simpa using h1
    clear e1 e2 hy hz
    go_enter Tryz.func125, Tryz.ntmps125
    go_wp2_with fail
    refine (HS _).out.mono ?_; rintro e w1 ⟨rfl, hb1⟩
    have y1 := hid hb1; clear hb1
    go_wp2_with fail
    refine (HT _).out.mono ?_; rintro e w2 ⟨rfl, hb2⟩
    have y2 := hid (bnext y1.out hb2); clear hb2
    go_wp2_with fail
    refine (n_first _ _ y z ?_ ?_).mono ?_
    · exact (Blk.new _ _ _).cell 0
    · exact (Blk.new _ _ _).cell 1
    rintro e w3 ⟨rfl, rfl⟩
    have y3 := hid (y2.out.alloc y2.out.size (.cells #[.int .i64 y, .int .i64 z] 27))
    rw [fe]
    go_wp2_with fail
    go_ret2
    exact ⟨rfl, y3.out⟩
end Go.Proofs.YtikfgddgfddbaaaGreatDoor

/- Walks: nat.Add, Mul, Sub, Cmp. -/
namespace Go.Proofs.YtikfgddgfddbaaaGreatDoor
open Go.RowKit Go.Shelf
open Go.Lib (decDigits nDigits)
set_option linter.unusedVariables false

/-- An operation on two texts: the text, the error. -/
def natB (f : Nat → Nat → Nat) (s t : ByteArray) : ByteArray := pairB (resB (f (bN s) (bN t))) s t
def natE (f : Nat → Nat → Nat) (s t : ByteArray) : Int := pairE (resE (f (bN s) (bN t))) s t

theorem len_add {a b k l : Nat} (ha : (limbs a).length ≤ k) (hb : (limbs b).length ≤ l) : (limbs (a + b)).length ≤ k + l + 1 := by
  have h1 := limbs_length_le.1 ha
  have h2 := limbs_length_le.1 hb
  refine limbs_length_le.2 ?_
  have h3 : 1000000000 ^ k ≤ 1000000000 ^ (k + l) := Nat.pow_le_pow_right (by omega) (by omega)
  have h4 : 1000000000 ^ l ≤ 1000000000 ^ (k + l) := Nat.pow_le_pow_right (by omega) (by omega)
  rw [Nat.pow_succ]
  omega
theorem len_mul {a b k l : Nat} (ha : (limbs a).length ≤ k) (hb : (limbs b).length ≤ l) : (limbs (a * b)).length ≤ k + l := by
  have h1 := limbs_length_le.1 ha
  have h2 := limbs_length_le.1 hb
  refine limbs_length_le.2 ?_
  rw [Nat.pow_add]
  exact Nat.mul_lt_mul'' h1 h2
theorem len_sub {a b k l : Nat} (ha : (limbs a).length ≤ k) (hb : (limbs b).length ≤ l) : (limbs (a - b)).length ≤ k :=
  Nat.le_trans (limbs_length_mono (Nat.sub_le a b)) ha

set_option maxRecDepth 100000 in
set_option maxHeartbeats 1000000 in
theorem n_Add1 (w : World) (v u : Value) (a b : Nat) (ha : IsN .u64 w v a) (hb : IsN .u64 w u b) (hla : (limbs a).length ≤ 1000) (hlb : (limbs b).length ≤ 1000) (hL : Lay w) :
    Calls Tryz.prog 149 #[v, u] w fun e w' => e = .returned (.tuple #[.string (resB (a + b)), .int .i64 (resE (a + b))]) ∧ Below w.heap.size w w' := by
  have HA := hid ha; have HB := hid hb; have HL := hid hL
  have LA := hid hla; have LB := hid hlb
  have LS := hid (len_add hla hlb)
  obtain ⟨a1, c1, rfl, _⟩ := ha.openI
  obtain ⟨a2, c2, rfl, _⟩ := hb.openI
  clear ha hb hL hla hlb
  go_enter Tryz.func149, Tryz.ntmps149
  go_wp2_with fail
  refine (l_Add _ _ _ a b HA.out HB.out (by have := LA.out; omega) (by have := LB.out; omega)).mono ?_
  rintro e w1 ⟨⟨v1, rfl, hv1⟩, hb1⟩
  have y1 := hid hb1; have V1 := hid hv1; clear hb1 hv1
  obtain ⟨a3, c3, rfl, _⟩ := V1.out.openI
  go_wp2_with fail
  refine (n_result _ _ _ V1.out (by have := LS.out; omega) (HL.out.call y1.out)).mono ?_
  rintro e w2 ⟨rfl, hb2⟩
  have y2 := hid (bnext y1.out hb2); clear hb2
  go_wp2_with fail
  go_ret2
  exact ⟨rfl, y2.out⟩

set_option maxRecDepth 100000 in
set_option maxHeartbeats 1000000 in
theorem n_Add (w : World) (s t : ByteArray) (hs : s.size ≤ 1000000) (ht : t.size ≤ 1000000) (hL : Lay w) :
    Calls Tryz.prog 98 #[.string s, .string t] w fun e w' => e = .returned (.tuple #[.string (natB ((· + ·)) s t), .int .i64 (natE ((· + ·)) s t)]) ∧ Below w.heap.size w w' := by
  have P := hid (n_pair w s t 149 (resB (((· + ·)) (bN s) (bN t))) (resE (((· + ·)) (bN s) (bN t))) hs ht hL (enters_of Tryz.func149 (by kernel_rfl) rfl)
    (fun W v u h1 h2 hv hu hLW => n_Add1 W v u _ _ hv hu (errN_dig h1).2.2 (errN_dig h2).2.2 hLW))
  go_enter Tryz.func98, Tryz.ntmps98
  go_wp2_with fail
  refine P.out.mono ?_
  rintro e w1 ⟨rfl, hb1⟩
  go_wp2_with fail
  go_ret2
  exact ⟨rfl, hb1⟩

set_option maxRecDepth 100000 in
set_option maxHeartbeats 1000000 in
theorem n_Mul1 (w : World) (v u : Value) (a b : Nat) (ha : IsN .u64 w v a) (hb : IsN .u64 w u b) (hla : (limbs a).length ≤ 1000) (hlb : (limbs b).length ≤ 1000) (hL : Lay w) :
    Calls Tryz.prog 147 #[v, u] w fun e w' => e = .returned (.tuple #[.string (resB (a * b)), .int .i64 (resE (a * b))]) ∧ Below w.heap.size w w' := by
  have HA := hid ha; have HB := hid hb; have HL := hid hL
  have LA := hid hla; have LB := hid hlb
  have LS := hid (len_mul hla hlb)
  obtain ⟨a1, c1, rfl, _⟩ := ha.openI
  obtain ⟨a2, c2, rfl, _⟩ := hb.openI
  clear ha hb hL hla hlb
  go_enter Tryz.func147, Tryz.ntmps147
  go_wp2_with fail
  refine (l_Mul _ _ _ a b HA.out HB.out (by have := LA.out; omega) (by have := LB.out; omega)).mono ?_
  rintro e w1 ⟨⟨v1, rfl, hv1⟩, hb1⟩
  have y1 := hid hb1; have V1 := hid hv1; clear hb1 hv1
  obtain ⟨a3, c3, rfl, _⟩ := V1.out.openI
  go_wp2_with fail
  refine (n_result _ _ _ V1.out (by have := LS.out; omega) (HL.out.call y1.out)).mono ?_
  rintro e w2 ⟨rfl, hb2⟩
  have y2 := hid (bnext y1.out hb2); clear hb2
  go_wp2_with fail
  go_ret2
  exact ⟨rfl, y2.out⟩

set_option maxRecDepth 100000 in
set_option maxHeartbeats 1000000 in
theorem n_Mul (w : World) (s t : ByteArray) (hs : s.size ≤ 1000000) (ht : t.size ≤ 1000000) (hL : Lay w) :
    Calls Tryz.prog 97 #[.string s, .string t] w fun e w' => e = .returned (.tuple #[.string (natB ((· * ·)) s t), .int .i64 (natE ((· * ·)) s t)]) ∧ Below w.heap.size w w' := by
  have P := hid (n_pair w s t 147 (resB (((· * ·)) (bN s) (bN t))) (resE (((· * ·)) (bN s) (bN t))) hs ht hL (enters_of Tryz.func147 (by kernel_rfl) rfl)
    (fun W v u h1 h2 hv hu hLW => n_Mul1 W v u _ _ hv hu (errN_dig h1).2.2 (errN_dig h2).2.2 hLW))
  go_enter Tryz.func97, Tryz.ntmps97
  go_wp2_with fail
  refine P.out.mono ?_
  rintro e w1 ⟨rfl, hb1⟩
  go_wp2_with fail
  go_ret2
  exact ⟨rfl, hb1⟩

/-- Subtraction's text and error. -/
def subB (a b : Nat) : ByteArray := if a < b then ⟨#[]⟩ else resB (a - b)
def subE (a b : Nat) : Int := if a < b then 2 else resE (a - b)

set_option maxRecDepth 100000 in
set_option maxHeartbeats 1000000 in
theorem n_Sub1 (w : World) (v u : Value) (a b : Nat) (ha : IsN .u64 w v a) (hb : IsN .u64 w u b) (hla : (limbs a).length ≤ 1000) (hlb : (limbs b).length ≤ 1000) (hL : Lay w) :
    Calls Tryz.prog 126 #[v, u] w fun e w' => e = .returned (.tuple #[.string (subB a b), .int .i64 (subE a b)]) ∧ Below w.heap.size w w' := by
  have HA := hid ha; have HB := hid hb; have HL := hid hL
  have LA := hid hla; have LB := hid hlb
  have LS := hid (len_sub hla hlb)
  obtain ⟨a1, c1, rfl, _⟩ := ha.openI
  obtain ⟨a2, c2, rfl, _⟩ := hb.openI
  clear ha hb hL hla hlb
  have C := hid (l_Cmp w _ _ a b HA.out HB.out (by have := LA.out; omega))
  by_cases h : a < b
  · have e1 : subB a b = ⟨#[]⟩ := if_pos h
    have e2 : subE a b = 2 := if_pos h
    rw [e1, e2]
    have e3 : ordN a b = -1 := ordN_lt h
    rw [e3] at C
    clear e1 e2 e3 h
    go_enter Tryz.func126, Tryz.ntmps126
    go_wp2_with fail
    refine C.out.mono ?_
    rintro e w1 ⟨rfl, hb1⟩
    go_wp2_with fail
    go_ret2
    exact ⟨rfl, hb1⟩
  · have e1 : subB a b = resB (a - b) := if_neg h
    have e2 : subE a b = resE (a - b) := if_neg h
    rw [e1, e2]
    have e3 : ordN a b = 0 ∨ ordN a b = 1 := by unfold ordN; rw [if_neg h]; split <;> simp
    obtain ⟨x, hx⟩ : ∃ x, ordN a b = x := ⟨_, rfl⟩
    rw [hx] at C e3
    have q0 : decide (x < 0) = false := by rcases e3 with rfl | rfl <;> decide
    have H := hid h
    clear e1 e2 e3 h hx
    go_enter Tryz.func126, Tryz.ntmps126
    go_wp2_with fail
    refine C.out.mono ?_
    rintro e w1 ⟨rfl, hb1⟩
    have y1 := hid hb1; clear hb1
    go_wp2_with fail
    refine (l_Sub _ _ _ a b (HA.out.call y1.out) (HB.out.call y1.out) (by have := H.out; omega) (by have := LA.out; omega)).mono ?_
    rintro e w2 ⟨⟨v1, rfl, hv1⟩, hb2⟩
    have y2 := hid (bnext y1.out hb2); have V1 := hid hv1; clear hb2 hv1
    obtain ⟨a3, c3, rfl, _⟩ := V1.out.openI
    go_wp2_with fail
    refine (n_result _ _ _ V1.out (by have := LS.out; omega) (HL.out.call y2.out)).mono ?_
    rintro e w3 ⟨rfl, hb3⟩
    have y3 := hid (bnext y2.out hb3); clear hb3
    go_wp2_with fail
    go_ret2
    exact ⟨rfl, y3.out⟩

set_option maxRecDepth 100000 in
set_option maxHeartbeats 1000000 in
theorem n_Sub (w : World) (s t : ByteArray) (hs : s.size ≤ 1000000) (ht : t.size ≤ 1000000) (hL : Lay w) :
    Calls Tryz.prog 87 #[.string s, .string t] w fun e w' => e = .returned (.tuple #[.string (pairB (subB (bN s) (bN t)) s t), .int .i64 (pairE (subE (bN s) (bN t)) s t)]) ∧ Below w.heap.size w w' := by
  have P := hid (n_pair w s t 126 (subB (bN s) (bN t)) (subE (bN s) (bN t)) hs ht hL (enters_of Tryz.func126 (by kernel_rfl) rfl)
    (fun W v u h1 h2 hv hu hLW => n_Sub1 W v u _ _ hv hu (errN_dig h1).2.2 (errN_dig h2).2.2 hLW))
  go_enter Tryz.func87, Tryz.ntmps87
  go_wp2_with fail
  refine P.out.mono ?_
  rintro e w1 ⟨rfl, hb1⟩
  go_wp2_with fail
  go_ret2
  exact ⟨rfl, hb1⟩

set_option maxRecDepth 100000 in
set_option maxHeartbeats 1000000 in
theorem n_Cmp (w : World) (s t : ByteArray) (hs : s.size ≤ 1000000) (ht : t.size ≤ 1000000) :
    Calls Tryz.prog 49 #[.string s, .string t] w fun e w' => e = .returned (.int .i64 (cmpN s.data.toList t.data.toList)) ∧ Below w.heap.size w w' := by
  have HS := fun W => hid (n_Check W s (by omega))
  have HT := fun W => hid (n_Check W t (by omega))
  by_cases h : errN s.data.toList = 0 ∧ errN t.data.toList = 0
  · have e1 : cmpN s.data.toList t.data.toList = ordN (bN s) (bN t) := if_pos h
    rw [e1]
    rw [h.1] at HS
    rw [h.2] at HT
    obtain ⟨d1, d2, d5⟩ := errN_dig h.1
    obtain ⟨d3, d4, -⟩ := errN_dig h.2
    have P1 := fun W => hid (l_Parse W s d1 (by omega))
    have P2 := fun W => hid (l_Parse W t d3 (by omega))
    have fe : firstE 0 0 = 0 := rfl
    have D5 := hid d5
    clear h d1 d2 d3 d4 d5 e1
    go_enter Tryz.func49, Tryz.ntmps49
    go_wp2_with fail
    refine (HS _).out.mono ?_; rintro e w1 ⟨rfl, hb1⟩
    have y1 := hid hb1; clear hb1
    go_wp2_with fail
    refine (HT _).out.mono ?_; rintro e w2 ⟨rfl, hb2⟩
    have y2 := hid (bnext y1.out hb2); clear hb2
    go_wp2_with fail
    refine (n_first _ _ 0 0 ?_ ?_).mono ?_
    · exact (Blk.new _ _ _).cell 0
    · exact (Blk.new _ _ _).cell 1
    rintro e w3 ⟨rfl, rfl⟩
    have y3 := hid (y2.out.alloc y2.out.size (.cells #[.int .i64 0, .int .i64 0] 27))
    rw [fe]
    go_wp2_with fail
    refine (P1 _).out.mono ?_; rintro e w4 ⟨⟨v4, rfl, hv4⟩, hb4⟩
    have y4 := hid (bnext y3.out hb4); have N4 := hid hv4; clear hb4 hv4
    go_wp2_with fail
    refine (P2 _).out.mono ?_; rintro e w5 ⟨⟨v5, rfl, hv5⟩, hb5⟩
    have y5 := hid (bnext y4.out hb5); have N5 := hid (N4.out.call hb5); have V5 := hid hv5; clear hb5 hv5
    go_wp2_with fail
    refine (l_Cmp _ _ _ _ _ N5.out V5.out (Nat.le_trans D5.out (by omega))).mono ?_; rintro e w6 ⟨rfl, hb6⟩
    have y6 := hid (bnext y5.out hb6); clear hb6
    go_wp2_with fail
    go_ret
    exact ⟨rfl, y6.out⟩
  · have e1 : cmpN s.data.toList t.data.toList = 0 := if_neg h
    rw [e1]
    obtain ⟨y, hy⟩ : ∃ y, errN s.data.toList = y := ⟨_, rfl⟩
    obtain ⟨z, hz⟩ : ∃ z, errN t.data.toList = z := ⟨_, rfl⟩
    rw [hy] at HS h
    rw [hz] at HT h
    have fe : ¬ firstE y z = 0 := by
      unfold firstE
      split
      · rename_i h1
        exact fun e => h ⟨h1, e⟩
      · rename_i h1
        exact h1
    obtain ⟨f, hf⟩ : ∃ f, firstE y z = f := ⟨_, rfl⟩
    rw [hf] at fe
    have q0 : (f == 0) = false := by simpa using fe
    have q1 : (f != 0) = true := by simpa using fe
    clear e1 hy hz h
    go_enter Tryz.func49, Tryz.ntmps49
    go_wp2_with fail
    refine (HS _).out.mono ?_; rintro e w1 ⟨rfl, hb1⟩
    have y1 := hid hb1; clear hb1
    go_wp2_with fail
    refine (HT _).out.mono ?_; rintro e w2 ⟨rfl, hb2⟩
    have y2 := hid (bnext y1.out hb2); clear hb2
    go_wp2_with fail
    refine (n_first _ _ y z ?_ ?_).mono ?_
    · exact (Blk.new _ _ _).cell 0
    · exact (Blk.new _ _ _).cell 1
    rintro e w3 ⟨rfl, rfl⟩
    have y3 := hid (y2.out.alloc y2.out.size (.cells #[.int .i64 y, .int .i64 z] 27))
    rw [hf]
    go_wp2_with fail
    go_ret
    exact ⟨rfl, y3.out⟩
end Go.Proofs.YtikfgddgfddbaaaGreatDoor

/- Walks: bits.Check; coin.plus, times, parts, checked. -/
namespace Go.Proofs.YtikfgddgfddbaaaGreatDoor
open Go.RowKit Go.Shelf
open Go.Lib (decDigits nDigits)
set_option linter.unusedVariables false

/-- A string of bits. -/
def bitB (s : ByteArray) : Bool := s.data.toList.all fun b => b == 48 || b == 49
def bitE (s : ByteArray) : Int := if bitB s = true then 0 else 3

theorem bits_ascii : ∀ (j : Nat) b, (⟨#[48, 49]⟩ : ByteArray).data.toList[j]? = some b → b.toNat < 128 := ascii_of_all (by decide)

theorem bitB_trim (s : ByteArray) : (Lib.trimS s.data.toList [48, 49]).isEmpty = bitB s := by
  rw [Bool.eq_iff_iff, List.isEmpty_iff, trim_nil, bitB, List.all_eq_true]
  refine forall_congr' fun b => forall_congr' fun _ => ?_
  rw [List.contains_iff_mem]
  simp

set_option maxRecDepth 100000 in
set_option maxHeartbeats 1000000 in
theorem b_Check (w : World) (s : ByteArray) (hs : s.size ≤ 100000000) :
    Calls Tryz.prog 50 #[.string s] w fun e w' => e = .returned (.int .i64 (bitE s)) ∧ Below w.heap.size w w' := by
  have htr := hid (Tryz.strings_Trim s ⟨#[48, 49]⟩ w (by omega) (by decide) bits_ascii)
  have hb := bitB_trim s
  obtain ⟨r, hr⟩ : ∃ r, Lib.trimS s.data.toList [48, 49] = r := ⟨_, rfl⟩
  have e0 : (⟨#[48, 49]⟩ : ByteArray).data.toList = [48, 49] := rfl
  rw [e0, hr] at htr
  rw [hr] at hb
  cases r with
  | nil =>
    have e1 : bitE s = 0 := if_pos hb.symm
    rw [e1]
    clear hb hr e1
    go_enter Tryz.func50, Tryz.ntmps50
    go_wp2_with fail
    refine htr.out.mono ?_; rintro e w1 ⟨rfl, hb1⟩
    go_wp2_with fail
    go_ret
    exact ⟨rfl, hb1⟩
  | cons b r =>
    have e1 : bitE s = 3 := if_neg (by rw [← hb]; simp)
    rw [e1]
    clear hb hr e1
    go_enter Tryz.func50, Tryz.ntmps50
    go_wp2_with fail
    refine htr.out.mono ?_; rintro e w1 ⟨rfl, hb1⟩
    go_wp2_with fail
    go_ret
    exact ⟨rfl, hb1⟩

/-- The error of a string of bits of bounded length. -/
def chkE (s : ByteArray) : Int := if bitB s = true then (if 256 < s.size then 4 else 0) else 3

set_option maxRecDepth 100000 in
set_option maxHeartbeats 1000000 in
theorem c_checked (w : World) (s : ByteArray) (hs : s.size ≤ 100000000) :
    Calls Tryz.prog 25 #[.string s] w fun e w' => e = .returned (.int .i64 (chkE s)) ∧ Below w.heap.size w w' := by
  have HC := hid (b_Check w s hs)
  by_cases hb : bitB s = true
  · have e0 : bitE s = 0 := if_pos hb
    rw [e0] at HC
    by_cases hl : 256 < s.size
    · have e1 : chkE s = 4 := by rw [chkE, if_pos hb, if_pos hl]
      have q0 : decide ((256 : Int) < (s.size : Int)) = true := by simp; omega
      rw [e1]
      clear hb hl e0 e1
      go_enter Tryz.func25, Tryz.ntmps25
      go_wp2_with fail
      refine HC.out.mono ?_; rintro e w1 ⟨rfl, hb1⟩
      go_wp2_with fail
      go_ret
      exact ⟨rfl, hb1⟩
    · have e1 : chkE s = 0 := by rw [chkE, if_pos hb, if_neg hl]
      have q0 : decide ((256 : Int) < (s.size : Int)) = false := by simp; omega
      rw [e1]
      clear hb hl e0 e1
      go_enter Tryz.func25, Tryz.ntmps25
      go_wp2_with fail
      refine HC.out.mono ?_; rintro e w1 ⟨rfl, hb1⟩
      go_wp2_with fail
      go_ret
      exact ⟨rfl, hb1⟩
  · have e0 : bitE s = 3 := if_neg hb
    have e1 : chkE s = 3 := if_neg hb
    rw [e0] at HC
    rw [e1]
    clear hb e0 e1
    go_enter Tryz.func25, Tryz.ntmps25
    go_wp2_with fail
    refine HC.out.mono ?_; rintro e w1 ⟨rfl, hb1⟩
    go_wp2_with fail
    go_ret
    exact ⟨rfl, hb1⟩

set_option maxRecDepth 100000 in
set_option maxHeartbeats 1000000 in
theorem c_plus (w : World) (s t : ByteArray) (hs : s.size ≤ 1000000) (ht : t.size ≤ 1000000) (hL : Lay w) :
    Calls Tryz.prog 53 #[.string s, .string t] w fun e w' => e = .returned (.string (natB (· + ·) s t)) ∧ Below w.heap.size w w' := by
  have P := hid (n_Add w s t hs ht hL)
  go_enter Tryz.func53, Tryz.ntmps53
  go_wp2_with fail
  refine P.out.mono ?_; rintro e w1 ⟨rfl, hb1⟩
  go_wp2_with fail
  go_ret
  exact ⟨rfl, hb1⟩

set_option maxRecDepth 100000 in
set_option maxHeartbeats 1000000 in
theorem c_times (w : World) (s t : ByteArray) (hs : s.size ≤ 1000000) (ht : t.size ≤ 1000000) (hL : Lay w) :
    Calls Tryz.prog 52 #[.string s, .string t] w fun e w' => e = .returned (.string (natB (· * ·) s t)) ∧ Below w.heap.size w w' := by
  have P := hid (n_Mul w s t hs ht hL)
  go_enter Tryz.func52, Tryz.ntmps52
  go_wp2_with fail
  refine P.out.mono ?_; rintro e w1 ⟨rfl, hb1⟩
  go_wp2_with fail
  go_ret
  exact ⟨rfl, hb1⟩

set_option maxRecDepth 100000 in
set_option maxHeartbeats 1000000 in
theorem g_plus (w : World) (s t : ByteArray) (hs : s.size ≤ 1000000) (ht : t.size ≤ 1000000) (hL : Lay w) :
    Calls Tryz.prog 84 #[.string s, .string t] w fun e w' => e = .returned (.string (natB (· + ·) s t)) ∧ Below w.heap.size w w' := by
  have P := hid (n_Add w s t hs ht hL)
  go_enter Tryz.func84, Tryz.ntmps84
  go_wp2_with fail
  refine P.out.mono ?_; rintro e w1 ⟨rfl, hb1⟩
  go_wp2_with fail
  go_ret
  exact ⟨rfl, hb1⟩

set_option maxRecDepth 100000 in
set_option maxHeartbeats 1000000 in
theorem g_times (w : World) (s t : ByteArray) (hs : s.size ≤ 1000000) (ht : t.size ≤ 1000000) (hL : Lay w) :
    Calls Tryz.prog 85 #[.string s, .string t] w fun e w' => e = .returned (.string (natB (· * ·) s t)) ∧ Below w.heap.size w w' := by
  have P := hid (n_Mul w s t hs ht hL)
  go_enter Tryz.func85, Tryz.ntmps85
  go_wp2_with fail
  refine P.out.mono ?_; rintro e w1 ⟨rfl, hb1⟩
  go_wp2_with fail
  go_ret
  exact ⟨rfl, hb1⟩
end Go.Proofs.YtikfgddgfddbaaaGreatDoor

/- Plain words: the coin. No program in sight. -/
namespace Go.Proofs.YtikfgddgfddbaaaGreatDoor
open Go.RowKit
open Go.Lib (decDigits nDigits)

theorem bN_num (n : Nat) : bN (numB n) = n := by rw [bN, numB_list, dv_dec]
theorem errN_numB {n : Nat} (h : nDigits n ≤ 4000) : errN (numB n).data.toList = 0 := by rw [numB_list]; exact errN_num h
theorem natB_num {f : Nat → Nat → Nat} {a b : Nat} (ha : nDigits a ≤ 4000) (hb : nDigits b ≤ 4000) (hf : nDigits (f a b) ≤ 4000) : natB f (numB a) (numB b) = numB (f a b) := by
  unfold natB pairB
  rw [if_pos ⟨errN_numB ha, errN_numB hb⟩, bN_num, bN_num, resB, if_neg (by omega)]
theorem cmpN_num {a b : Nat} (ha : nDigits a ≤ 4000) (hb : nDigits b ≤ 4000) : cmpN (numB a).data.toList (numB b).data.toList = ordN a b := by
  unfold cmpN
  rw [if_pos ⟨errN_numB ha, errN_numB hb⟩, numB_list, numB_list, dv_dec, dv_dec]
theorem numB_small {n k : Nat} (h : n < 10 ^ k) (hk : 0 < k) (hk2 : k ≤ 4000) : nDigits n ≤ 4000 := Nat.le_trans (nDigits_le hk h) hk2
theorem numB_sz {n : Nat} (h : nDigits n ≤ 4000) : (numB n).size ≤ 1000000 := by rw [numB_size]; omega

/-- On which side of N / D the cell of K among T lies, and whether that is decided. -/
def sdV (N D K T : Nat) : Nat := if N * T ≤ K * D then 0 else 1
def sdB (N D K T : Nat) : Bool := decide (N * T ≤ K * D) || decide (K * D + D ≤ N * T)

/-- The coin's result, from the cell of K among T on: decided; the value; the bits used. -/
def toss (N D : Nat) : Nat → Nat → List UInt8 → Bool × Nat × Nat
  | K, T, l =>
    if sdB N D K T = true then (true, sdV N D K T, 0)
    else match l with
      | [] => (false, 0, 0)
      | b :: r =>
        let x := toss N D (2 * K + (if b = 49 then 1 else 0)) (2 * T) r
        (x.1, x.2.1, x.2.2 + 1)
  termination_by _ _ l => l.length

def eN : Nat := 1000
def eK : Nat := 100
/-- What may be computed with. -/
structure Fits (N D K T : Nat) : Prop where
  n : N < 10 ^ eN
  d : D < 10 ^ eN
  k : K < 10 ^ eK
  t : T < 10 ^ eK

theorem fit_mul {a b k l : Nat} (ha : a < 10 ^ k) (hb : b < 10 ^ l) : a * b < 10 ^ (k + l) := by
  rw [Nat.pow_add]
  exact Nat.mul_lt_mul'' ha hb
theorem fit_add {a b k : Nat} (ha : a < 10 ^ k) (hb : b < 10 ^ k) : a + b < 10 ^ (k + 1) := by
  rw [Nat.pow_succ]; omega
theorem fit_up {a k l : Nat} (ha : a < 10 ^ k) (h : k ≤ l) : a < 10 ^ l := Nat.lt_of_lt_of_le ha (Nat.pow_le_pow_right (by omega) h)
end Go.Proofs.YtikfgddgfddbaaaGreatDoor

/- A region that draws its order, outside a round: some operations, picked by their numbers, yield whatever the others do; then the rest. No program in sight. -/
namespace Go.Proofs.YtikfgddgfddbaaaGreatDoor
open Go.RowKit
variable {P : Program} {ops : Array Oper} {Q : Exit → Act → World → Prop} {md : Region.Mode}

/-- An operation by its number, for the unifier to read. -/
def opAt : List Oper → Nat → Option Oper
  | [], _ => none
  | o :: _, 0 => some o
  | _ :: l, i + 1 => opAt l i

theorem opAt_get : ∀ (l : List Oper) (i : Nat) (o : Oper), opAt l i = some o → l.toArray[i]? = some o
  | [], _, _, h => by cases h
  | o :: _, 0, _, h => by simpa [opAt] using h
  | _ :: l, i + 1, o, h => by simpa using opAt_get l i o h

/-- The picked operations yield one after the other, in every world that meets S. -/
def wpPick (P : Program) (l : List Oper) (S : World → Prop) (L : Act → Prop) : List Nat → Act → Prop
  | [], a => L a
  | i :: rest, a => ∃ o, opAt l i = some o ∧ ∃ v, YieldsIf P l.toArray S o v a ∧ wpPick P l S L rest (a.put o.dst v)

/-- The picked operations may be taken one after the other. -/
def pickB (md : Region.Mode) (ops : Array Oper) : List Nat → Array Bool → Bool
  | [], _ => true
  | i :: is, listed => (Region.ready md ops listed).contains i && Region.free md ops listed i && pickB md ops is (listed.setIfInBounds i true)

def setL : List Nat → Array Bool → Array Bool
  | [], listed => listed
  | i :: is, listed => setL is (listed.setIfInBounds i true)

theorem held_pick {l : List Oper} {S : World → Prop} (hsel : Region.noSelect l.toArray = true) {g : Nat} {w : World} (hS : S w) : ∀ (is : List Nat) (listed : Array Bool) (a : Act), pickB md l.toArray is listed = true →
    wpPick P l S (fun a' => wpAnyH P md l.toArray (Only Q) S g (setL is listed) a' w) is a → wpAnyH P md l.toArray (Only Q) S (g + is.length) listed a w
  | [], _, _, _, h => h
  | i :: is, listed, a, hB, h => by
    simp only [pickB, Bool.and_eq_true] at hB
    obtain ⟨⟨hr, hf⟩, hB'⟩ := hB
    obtain ⟨o, ho, v, hy, hrest⟩ := h
    have hQ : ∀ c a w, Only Q (.panic c) (Act.put a o.dst v) w → Only Q (.panic c) a w := fun _ _ _ h => h
    exact wpAnyH_take (opAt_get _ _ _ ho) hsel hf hr hQ hy hS (held_pick hsel hS is _ _ hB' hrest)

/-- The region, in the plain walk. -/
theorem held_plain {id : Nat} {a : Act} {w : World} {l : List Oper} (is : List Nat) (g : Nat) (S : World → Prop) (hm : P.follows .mixedOrders = true) (hsel : Region.noSelect l.toArray = true) (hg : g + is.length = l.toArray.size) (hB : pickB .any l.toArray is (Array.replicate l.toArray.size false) = true) (hS : S w.drew)
    (h : wpPick P l S (fun a' => wpAnyH P .any l.toArray (Only Q) S g (setL is (Array.replicate l.toArray.size false)) a' w.drew) is a) : (Code.region id l.toArray true).wp P Q a w := by
  have h2 := held_pick (P := P) (md := .any) (Q := Q) (S := S) hsel (g := g) hS is (Array.replicate l.toArray.size false) a hB h
  rw [hg] at h2
  exact (wpIn_wide (n := 1)).1 (wpIn_region_any hm (any_plain _ _ _ _ (wpAny_of_held (S := S) _ _ _ _ h2)))

/-- More picks, within. -/
theorem held_more {l : List Oper} {S : World → Prop} {is : List Nat} {g fuel : Nat} {listed : Array Bool} {a : Act} {w : World} (hsel : Region.noSelect l.toArray = true) (hf : fuel = g + is.length) (hS : S w) (hB : pickB md l.toArray is listed = true)
    (h : wpPick P l S (fun a' => wpAnyH P md l.toArray (Only Q) S g (setL is listed) a' w) is a) : wpAnyH P md l.toArray (Only Q) S fuel listed a w := by
  rw [hf]
  exact held_pick hsel hS is listed a hB h
end Go.Proofs.YtikfgddgfddbaaaGreatDoor

/- Walks: coin.sides and its closure. -/
namespace Go.Proofs.YtikfgddgfddbaaaGreatDoor
open Go.RowKit Go.Shelf
open Go.Lib (decDigits nDigits)
set_option linter.unusedVariables false
set_option linter.unusedSimpArgs false

theorem ordN_le {a b : Nat} : decide (ordN a b ≤ 0) = decide (a ≤ b) := by
  unfold ordN
  split
  · simp; omega
  · split <;> simp <;> omega

set_option maxRecDepth 100000 in
set_option maxHeartbeats 1000000 in
theorem c_sides (w : World) (n d : ByteArray) :
    Calls Tryz.prog 26 #[.string n, .string d] w fun e w' => e = .returned (.func (.func 51) #[] #[.pointer (some ⟨w.heap.size, 0, none⟩), .pointer (some ⟨w.heap.size + 1, 0, none⟩)]) ∧ w' = (w.alloc (.cells #[.string n] 22)).alloc (.cells #[.string d] 22) := by
  go_enter Tryz.func26, Tryz.ntmps26
  go_wp2_with fail
  go_ret
  exact ⟨rfl, rfl⟩

set_option maxRecDepth 100000 in
set_option maxHeartbeats 2000000 in
theorem c_side (w : World) (bn bd N D K T : Nat) (hn : Blk w bn #[.string (numB N)] 22) (hd : Blk w bd #[.string (numB D)] 22) (hf : Fits N D K T) (hL : Lay w) :
    Calls Tryz.prog 51 #[.string (numB K), .string (numB T), .pointer (some ⟨bn, 0, none⟩), .pointer (some ⟨bd, 0, none⟩)] w fun e w' => e = .returned (.tuple #[.int .i64 (sdV N D K T : Nat), .bool (sdB N D K T)]) ∧ Below w.heap.size w w' := by
  have dN := numB_small hf.n (by decide) (by decide)
  have dD := numB_small hf.d (by decide) (by decide)
  have dK := numB_small hf.k (by decide) (by decide)
  have dT := numB_small hf.t (by decide) (by decide)
  have f1 := fit_mul hf.n hf.t
  have f2 := fit_mul hf.k hf.d
  have dP := numB_small f1 (by decide) (by decide)
  have dQ := numB_small f2 (by decide) (by decide)
  have dS := numB_small (fit_add f2 (fit_up hf.d (by decide))) (by decide) (by decide)
  have T1 := fun V hV => hid (c_times V (numB N) (numB T) (numB_sz dN) (numB_sz dT) hV)
  have T2 := fun V hV => hid (c_times V (numB K) (numB D) (numB_sz dK) (numB_sz dD) hV)
  have T3 := fun V hV => hid (c_plus V (numB (K * D)) (numB D) (numB_sz dQ) (numB_sz dD) hV)
  have C1 := fun V => hid (n_Cmp V (numB (N * T)) (numB (K * D)) (numB_sz dP) (numB_sz dQ))
  have C2 := fun V => hid (n_Cmp V (numB (K * D + D)) (numB (N * T)) (numB_sz dS) (numB_sz dP))
  rw [natB_num dN dT dP] at T1
  rw [natB_num dK dD dQ] at T2
  rw [natB_num dQ dD dS] at T3
  rw [cmpN_num dP dQ] at C1
  rw [cmpN_num dS dP] at C2
  have HL := hid hL
  have HN := hid hn; have HD := hid hd
  have c0 := hn.cell 0
  have c1 := hd.cell 0
  simp only [List.getElem?_toArray, List.getElem?_cons_zero] at c0 c1
  have hSV : sdV N D K T = if N * T ≤ K * D then 0 else 1 := rfl
  have hSB : sdB N D K T = (decide (N * T ≤ K * D) || decide (K * D + D ≤ N * T)) := rfl
  rw [hSV, hSB]
  obtain ⟨P, hP⟩ : ∃ P, N * T = P := ⟨_, rfl⟩
  obtain ⟨Q, hQ⟩ : ∃ Q, K * D = Q := ⟨_, rfl⟩
  rw [hP] at T1 C1 C2 ⊢
  rw [hQ] at T2 T3 C1 C2 ⊢
  obtain ⟨sn, hsn⟩ : ∃ s, numB N = s := ⟨_, rfl⟩
  obtain ⟨sd, hsd⟩ : ∃ s, numB D = s := ⟨_, rfl⟩
  obtain ⟨sk, hsk⟩ : ∃ s, numB K = s := ⟨_, rfl⟩
  obtain ⟨st, hst⟩ : ∃ s, numB T = s := ⟨_, rfl⟩
  rw [hsn] at T1 c0 HN
  rw [hsd] at T2 T3 c1 HD
  rw [hsk] at T2 ⊢
  rw [hst] at T1 ⊢
  clear hsn hsd hsk hst hP hQ hSV hSB dN dD dK dT f1 f2 dP dQ dS hf hL hn hd
  go_enter Tryz.func51, Tryz.ntmps51
  go_wp2_with fail
  refine held_plain [0, 1, 3, 4] 4 (fun W' => W'.cell? ⟨bn, 0, none⟩ = some (.string sn) ∧ W'.cell? ⟨bd, 0, none⟩ = some (.string sd)) (by kernel_rfl) (by kernel_rfl) (by kernel_rfl) (by kernel_rfl) ⟨c0, c1⟩ ?_
  iterate 4
    refine ⟨_, rfl, ?_⟩
    apply Exists.intro
    refine ⟨.inl ⟨by rfl, ?_⟩, ?_⟩
    · (intro W' hW'
       obtain ⟨q1, q2⟩ := hW'
       go_simp
       try (with_reducible rfl))
    simp only [Act.put, List.setIfInBounds_toArray, List.set_cons_zero, List.set_cons_succ]
  refine held_one (i := 2) (by kernel_rfl) (by rfl) (by rfl) ?_
  go_wp2_with fail
  refine (T1 _ (HL.out.call (Below.refl _ _).drew)).out.mono ?_; rintro e w1 ⟨rfl, hb1⟩
  have y1 := hid (show Below w.heap.size w w1 from (Below.refl _ _).drew.trans hb1)
  have N1 := hid (HN.out.call y1.out); have D1 := hid (HD.out.call y1.out)
  clear hb1
  go_wp2_with fail
  refine ⟨⟨N1.out.cell 0, D1.out.cell 0⟩, ?_⟩
  refine held_one (i := 5) (by kernel_rfl) (by rfl) (by rfl) ?_
  go_wp2_with fail
  refine (T2 _ (HL.out.call y1.out)).out.mono ?_; rintro e w2 ⟨rfl, hb2⟩
  have y2 := hid (bnext y1.out hb2)
  have N2 := hid (N1.out.call hb2); have D2 := hid (D1.out.call hb2)
  clear hb2
  go_wp2_with fail
  refine ⟨⟨N2.out.cell 0, D2.out.cell 0⟩, ?_⟩
  refine held_one (i := 6) (by kernel_rfl) (by rfl) (by rfl) ?_
  go_wp2_with fail
  refine ⟨⟨N2.out.cell 0, D2.out.cell 0⟩, ?_⟩
  refine held_one (i := 7) (by kernel_rfl) (by rfl) (by rfl) ?_
  go_wp2_with fail
  refine ⟨⟨N2.out.cell 0, D2.out.cell 0⟩, ?_⟩
  refine wpAnyH_done (by kernel_rfl) ?_ _
  simp only [Only]
  go_wp2_with fail
  refine (C1 _).out.mono ?_; rintro e w3 ⟨rfl, hb3⟩
  have y3 := hid (bnext y2.out hb3)
  have D3 := hid (D2.out.call hb3)
  clear hb3
  have o1 := ordN_le (a := P) (b := Q)
  obtain ⟨x1, hx1⟩ : ∃ x, ordN P Q = x := ⟨_, rfl⟩
  rw [hx1] at o1 ⊢
  clear hx1
  by_cases h : P ≤ Q
  · simp only [h, decide_true, if_true, Bool.true_or] at o1 ⊢
    go_wp2_with fail
    go_ret2
    exact ⟨rfl, y3.out⟩
  · have o2 := ordN_le (a := Q + D) (b := P)
    have d3 := D3.out.cell 0
    simp only [List.getElem?_toArray, List.getElem?_cons_zero] at d3
    obtain ⟨x2, hx2⟩ : ∃ x, ordN (Q + D) P = x := ⟨_, rfl⟩
    obtain ⟨r, hr⟩ : ∃ r, decide (Q + D ≤ P) = r := ⟨_, rfl⟩
    rw [hx2] at o2 C2
    rw [hr] at o2
    simp only [h, decide_false, if_false, Bool.false_or] at o1 ⊢
    clear hx2
    go_wp2_with fail
    refine (T3 _ (HL.out.call y3.out)).out.mono ?_; rintro e w4 ⟨rfl, hb4⟩
    have y4 := hid (bnext y3.out hb4)
    clear hb4
    go_wp2_with fail
    refine (C2 _).out.mono ?_; rintro e w5 ⟨rfl, hb5⟩
    have y5 := hid (bnext y4.out hb5)
    clear hb5
    go_wp2_with fail
    go_ret2
    exact ⟨rfl, y5.out⟩
end Go.Proofs.YtikfgddgfddbaaaGreatDoor

/- Walks: coin's look. -/
namespace Go.Proofs.YtikfgddgfddbaaaGreatDoor
open Go.RowKit Go.Shelf
open Go.Lib (decDigits nDigits)
set_option linter.unusedVariables false
set_option linter.unusedSimpArgs false

/-- A toss's cells. -/
def tossC (b k t : ByteArray) (bn bd : Nat) (dn : Bool) (v u : Int) : Array Value :=
  #[.string b, .string k, .string t, .func (.func 51) #[] #[.pointer (some ⟨bn, 0, none⟩), .pointer (some ⟨bd, 0, none⟩)], .bool dn, .int .i64 v, .int .i64 u]

/-- A toss under way in block g: the bits b, u of them read, the cell K among T; the side of N / D. -/
structure Toss (w : World) (g bn bd : Nat) (b : ByteArray) (N D K T u : Nat) : Prop where
  blk : Blk w g (tossC b (numB K) (numB T) bn bd false 0 u) 44
  num : Blk w bn #[.string (numB N)] 22
  den : Blk w bd #[.string (numB D)] 22
  ln : bn < g
  ld : bd < g

set_option maxRecDepth 100000 in
set_option maxHeartbeats 600000 in
theorem c_look (w : World) (g bn bd : Nat) (b : ByteArray) (N D K T u : Nat) (ht : Toss w g bn bd b N D K T u) (hf : Fits N D K T) (hL : Lay w) (hs : b.size ≤ 100000) (hu : u ≤ b.size) :
    Calls Tryz.prog 27 #[.pointer (some ⟨g, 0, none⟩)] w fun e w' =>
      Below g w w' ∧
      ((sdB N D K T = true ∧ e = .returned .nilFunc ∧ Blk w' g (tossC b (numB K) (numB T) bn bd true (sdV N D K T : Nat) u) 44) ∨
       (sdB N D K T = false ∧ u = b.size ∧ e = .returned .nilFunc ∧ Toss w' g bn bd b N D K T u) ∨
       (sdB N D K T = false ∧ u < b.size ∧ e = .returned (.func (.func 54) #[.pointer (some ⟨g, 0, none⟩)] #[]) ∧ Toss w' g bn bd b N D K T u)) := by
  have HB := hid ht.blk
  have HN := hid ht.num
  have HD := hid ht.den
  have LN := hid ht.ln
  have LD := hid ht.ld
  have LG := hid (Blk.lt ht.blk)
  have HF := hid hf; have HL := hid hL; have HS := hid hs; have HU := hid hu
  have c0 : w.cell? ⟨g, 0, none⟩ = some (.string b) := ht.blk.cell 0
  have c1 : w.cell? ⟨g, 1, none⟩ = some (.string (numB K)) := ht.blk.cell 1
  have c2 : w.cell? ⟨g, 2, none⟩ = some (.string (numB T)) := ht.blk.cell 2
  have c3 : w.cell? ⟨g, 3, none⟩ = some (.func (.func 51) #[] #[.pointer (some ⟨bn, 0, none⟩), .pointer (some ⟨bd, 0, none⟩)]) := ht.blk.cell 3
  have e51 : ∀ args w, (callFunc 51 args).run Tryz.prog w = .ok (.enter 51 args) w := enters_of Tryz.func51 (by kernel_rfl) rfl
  obtain ⟨sk, hsk⟩ : ∃ s, numB K = s := ⟨_, rfl⟩
  obtain ⟨st, hst⟩ : ∃ s, numB T = s := ⟨_, rfl⟩
  have HK := hid hsk; have HT := hid hst
  rw [hsk] at c1
  rw [hst] at c2
  have CS := hid (c_side w.drew bn bd N D K T ht.num ht.den hf (hL.call (Below.refl _ _).drew))
  rw [hsk, hst] at CS
  obtain ⟨xv, hxv⟩ : ∃ x, sdV N D K T = x := ⟨_, rfl⟩
  obtain ⟨xb, hxb⟩ : ∃ x, sdB N D K T = x := ⟨_, rfl⟩
  rw [hxv, hxb] at CS
  rw [hxv, hxb]
  clear hsk hst ht hf hL hs hu hxv hxb
  go_enter Tryz.func27, Tryz.ntmps27
  go_wp2_with fail
  refine held_plain [0, 1, 2, 3, 4, 5, 6, 7, 8, 9, 10, 11] 6 (fun W' => (W'.cell? ⟨g, 1, none⟩ = some (.string sk) ∧ W'.cell? ⟨g, 2, none⟩ = some (.string st)) ∧ W'.cell? ⟨g, 3, none⟩ = some (.func (.func 51) #[] #[.pointer (some ⟨bn, 0, none⟩), .pointer (some ⟨bd, 0, none⟩)])) (by kernel_rfl) (by kernel_rfl) (by kernel_rfl) (by kernel_rfl) ⟨⟨c1, c2⟩, c3⟩ ?_
  iterate 12
    refine ⟨_, rfl, ?_⟩
    apply Exists.intro
    refine ⟨.inl ⟨by rfl, ?_⟩, ?_⟩
    · (intro W' hW'
       obtain ⟨⟨q1, q2⟩, q3⟩ := hW'
       go_simp
       try (with_reducible rfl))
    (dsimp only [Act.put]; try simp only [List.setIfInBounds_toArray, List.set_cons_zero, List.set_cons_succ])
  refine held_one (i := 12) (by kernel_rfl) (by rfl) (by rfl) ?_
  go_wp2_with fail
  refine CS.out.mono ?_; rintro e w1 ⟨rfl, hb1⟩
  have y1 := hid (show Below w.heap.size w w1 from (Below.refl _ _).drew.trans hb1)
  have B1 := hid (HB.out.call y1.out); have N1 := hid (HN.out.call y1.out); have D1 := hid (HD.out.call y1.out)
  have d0 : w1.cell? ⟨g, 0, none⟩ = some (.string b) := B1.out.cell 0
  have d1 : w1.cell? ⟨g, 1, none⟩ = some (.string (numB K)) := B1.out.cell 1
  have d2 : w1.cell? ⟨g, 2, none⟩ = some (.string (numB T)) := B1.out.cell 2
  have d3 : w1.cell? ⟨g, 3, none⟩ = some (.func (.func 51) #[] #[.pointer (some ⟨bn, 0, none⟩), .pointer (some ⟨bd, 0, none⟩)]) := B1.out.cell 3
  have d4 : w1.cell? ⟨g, 4, none⟩ = some (.bool false) := B1.out.cell 4
  have d5 : w1.cell? ⟨g, 5, none⟩ = some (.int .i64 0) := B1.out.cell 5
  have d6 : w1.cell? ⟨g, 6, none⟩ = some (.int .i64 u) := B1.out.cell 6
  have f4 := B1.out.free 4
  have f5 := B1.out.free 5
  rw [HK.out] at d1
  rw [HT.out] at d2
  clear hb1 c0 c1 c2 c3
  go_wp2_with fail
  refine ⟨⟨⟨d1, d2⟩, d3⟩, ?_⟩
  refine held_more (is := [13, 14, 15, 16, 17]) (g := 0) (by kernel_rfl) rfl ⟨⟨d1, d2⟩, d3⟩ (by kernel_rfl) ?_
  iterate 5
    refine ⟨_, rfl, ?_⟩
    apply Exists.intro
    refine ⟨.inl ⟨by rfl, ?_⟩, ?_⟩
    · (intro W' hW'
       clear hW'
       go_simp
       try (with_reducible rfl))
    (dsimp only [Act.put]; try simp only [List.setIfInBounds_toArray, List.set_cons_zero, List.set_cons_succ])
  refine wpAnyH_done (by kernel_rfl) ?_ _
  simp only [Only]
  cases xb
  · go_wp2_with fail
    refine held_plain [0, 1, 2, 3, 4, 5, 6, 7, 8, 9, 10] 0 (fun W' => W'.cell? ⟨g, 0, none⟩ = some (.string b) ∧ W'.cell? ⟨g, 6, none⟩ = some (.int .i64 u)) (by kernel_rfl) (by kernel_rfl) (by kernel_rfl) (by kernel_rfl) ⟨d0, d6⟩ ?_
    iterate 11
      refine ⟨_, rfl, ?_⟩
      apply Exists.intro
      refine ⟨.inl ⟨by rfl, ?_⟩, ?_⟩
      · (intro W' hW'
         obtain ⟨q1, q2⟩ := hW'
         go_simp
         try (with_reducible rfl))
      (dsimp only [Act.put]; try simp only [List.setIfInBounds_toArray, List.set_cons_zero, List.set_cons_succ])
    refine wpAnyH_done (by kernel_rfl) ?_ _
    simp only [Only]
    have y2 := hid y1.out.drew
    have T2 : Hid (Toss w1.drew g bn bd b N D K T u) := ⟨B1.out, N1.out, D1.out, LN.out, LD.out⟩
    obtain ⟨r, hr⟩ : ∃ r, ((u : Int) == (b.size : Int)) = r := ⟨_, rfl⟩
    rw [hr]
    have HR := hid hr
    clear hr d0 d1 d2 d3 d4 d5 d6 f4 f5 e51
    cases r
    · have HU2 := hid (show u < b.size from by have h1 := HU.out; have h2 := HR.out; simp at h2; omega)
      go_wp2_with fail
      go_ret
      exact ⟨y2.out.mono (Nat.le_of_lt LG.out), .inr ⟨HU2.out, rfl, T2.out⟩⟩
    · have HU2 := hid (show u = b.size from by have h2 := HR.out; simp at h2; omega)
      go_wp2_with fail
      go_ret
      exact ⟨y2.out.mono (Nat.le_of_lt LG.out), .inl ⟨HU2.out, rfl, T2.out⟩⟩
  · go_wp2_with fail
    go_ret
    have r1 := (B1.out.set 4 (.bool true)).set 5 (.int .i64 xv)
    refine ⟨?_, ⟨rfl, ?_⟩⟩
    · exact ((y1.out.mono (Nat.le_of_lt LG.out)).setCell (Nat.le_refl _) _).setCell (Nat.le_refl _) _
    · simpa [tossC] using r1
end Go.Proofs.YtikfgddgfddbaaaGreatDoor

/- A region that draws its order, whose last operations come up one after the other: they may be split off. No program in sight. -/
namespace Go.Proofs.YtikfgddgfddbaaaGreatDoor
open Go.RowKit
variable {P : Program} {Q : Exit → Act → World → Prop}

def ThenL (P : Program) (ops : Array Oper) (Q : Exit → Act → World → Prop) (rest : List Oper) : Exit → Act → World → Prop
  | .normal, a, w => wpList P ops Q rest a w
  | e, a, w => Q e a w

theorem only_any {md : Region.Mode} {ops : Array Oper} : ∀ (fuel : Nat) (listed : Array Bool) (a : Act) (w : World), wpAny P md ops (Only Q) fuel listed a w → wpAny P md ops Q fuel listed a w := by
  intro fuel
  induction fuel with
  | zero => exact fun _ _ _ h => h
  | succ fuel ih =>
    rintro listed a w ⟨h1, h2⟩
    refine ⟨h1, fun i hi => ?_⟩
    have h := h2 i hi
    unfold wpOp at h ⊢
    split at h
    · rename_i ho
      exact ih _ _ _ h
    · rename_i o ho
      split at h
      · rename_i hw
        rw [if_pos hw]
        rcases h with h | ⟨_, a', w', h⟩
        · exact .inl (wp_turn (fun a w h => ih _ _ _ h) (fun _ _ _ h => h.elim) (fun ⟨_, _, h⟩ => h.elim) h)
        · exact h.elim
      · rename_i hw
        rw [if_neg hw]
        exact ih _ _ _ h

theorem one_last {ops : Array Oper} {oz : Oper} {Q' : Exit → Act → World → Prop} {a : Act} {w : World} (hB : splitB ops oz = true)
    (hP : ∀ c a w, Q' (.panic c) a w → Q (.panic c) a w) (hL : LetsOut Q' → LetsOut Q) (hN : ∀ a w, Q' .normal a w → oz.wp P a w (fun a w => Q .normal a w) Q ∨ (oz.asks P a w ∧ LetsOut Q))
    (h : wpAny P .any ops Q' ops.size (Array.replicate ops.size false) a w) : wpAny P .any (ops.push oz) Q (ops.push oz).size (Array.replicate (ops.push oz).size false) a w := by
  simp only [splitB, Bool.and_eq_true, List.all_eq_true, List.any_eq_true, List.mem_range, decide_eq_true_eq, Option.isNone_iff_eq_none, Array.mem_toList_iff] at hB
  obtain ⟨⟨⟨⟨h1, h2⟩, h3⟩, h4⟩, h5⟩ := hB
  have hl := wpAny_last (P := P) (md := .any) (ops := ops) (oz := oz) (fun i o ho => h1 o (Array.mem_of_getElem? ho)) h2 (fun e he _ => h3 e he)
    (fun i hi => by
      obtain ⟨e, he, hb, hon⟩ := h4 i hi
      refine ⟨e, he, hb, ?_⟩
      simp only [Bool.or_eq_true, beq_iff_eq] at hon
      refine hon.imp (fun h => h) fun hx => ?_
      split at hx
      · rename_i o ho
        simp only [List.any_eq_true, Bool.and_eq_true, beq_iff_eq, Array.mem_toList_iff] at hx
        obtain ⟨f, hf, hfb, hfo⟩ := hx
        exact ⟨o, ho, f, hf, hfb, hfo⟩
      · cases hx)
    (fun i o ho e he _ => by
      have := h5 i (Array.getElem?_eq_some_iff.1 ho).1
      rw [ho] at this
      simp only [List.all_eq_true, Array.mem_toList_iff, decide_eq_true_eq] at this
      exact this e he) hP hL hN ops.size (Array.replicate ops.size false) a w (by simp) (fun j o _ hj => by simp [Array.getD] at hj) h
  have hr : Array.replicate (ops.push oz).size false = (Array.replicate ops.size false).push false := by
    rw [Array.size_push]
    exact Array.replicate_succ
  rw [hr, Array.size_push]
  exact hl

/-- Each from n on is the last of those up to it. -/
def lastsB (l : List Oper) : Nat → Nat → Bool
  | 0, _ => true
  | k + 1, n => (match l[n]? with | some oz => splitB (l.take n).toArray oz | none => false) && lastsB l k (n + 1)

theorem any_lasts (l : List Oper) {a : Act} {w : World} : ∀ (k n : Nat), n + k = l.length → lastsB l k n = true →
    wpAny P .any (l.take n).toArray (ThenL P l.toArray Q (l.drop n)) (l.take n).toArray.size (Array.replicate (l.take n).toArray.size false) a w →
    wpAny P .any l.toArray Q l.toArray.size (Array.replicate l.toArray.size false) a w
  | 0, n, hn, _, h => by
    have e1 : l.take n = l := List.take_of_length_le (by omega)
    have e2 : l.drop n = [] := List.drop_of_length_le (by omega)
    have e3 : ThenL P l.toArray Q [] = Q := by
      funext e a w
      cases e <;> simp [ThenL, wpList]
    rw [e1, e2, e3] at h
    exact h
  | k + 1, n, hn, hB, h => by
    simp only [lastsB, Bool.and_eq_true] at hB
    obtain ⟨h1, h2⟩ := hB
    have hlt : n < l.length := by omega
    rw [List.getElem?_eq_getElem hlt] at h1
    have e1 : l.take (n + 1) = l.take n ++ [l[n]] := List.take_succ_eq_append_getElem hlt
    have e2 : l.drop n = l[n] :: l.drop (n + 1) := List.drop_eq_getElem_cons hlt
    refine any_lasts l k (n + 1) (by omega) h2 ?_
    have e3 : (l.take (n + 1)).toArray = (l.take n).toArray.push l[n] := by rw [e1]; simp
    rw [e3]
    have hgz : l[n].guard = none := by
      simp only [splitB, Bool.and_eq_true, Option.isNone_iff_eq_none] at h1
      exact h1.1.1.1.2
    refine one_last h1 (Q' := ThenL P l.toArray Q (l.drop n)) (fun _ _ _ h => h) (fun ⟨a, w, h⟩ => ⟨a, w, h⟩) (fun a w hq => ?_) h
    have hq' : wpList P l.toArray Q (l.drop n) a w := hq
    rw [e2] at hq'
    unfold wpList at hq'
    have hw : Region.wanted l[n] (yielded l.toArray a.tmps) = true := by simp [Region.wanted, hgz]
    rw [if_pos hw] at hq'
    rcases hq' with hq' | ⟨h3, h4⟩
    · exact .inl (wp_turn (fun _ _ h => h) (fun _ _ _ h => h) (fun ⟨a, w, h⟩ => ⟨a, w, h⟩) hq')
    · exact .inr ⟨h3, by obtain ⟨a, w, h⟩ := h4; exact ⟨a, w, h⟩⟩

/-- The region: picks, the rest of the first n, then the others one after the other. -/
theorem held_lasts {id : Nat} {a : Act} {w : World} {l : List Oper} (n k : Nat) (is : List Nat) (g : Nat) (S : World → Prop) (hm : P.follows .mixedOrders = true) (hk : n + k = l.length) (hlast : lastsB l k n = true) (hsel : Region.noSelect (l.take n).toArray = true) (hg : g + is.length = (l.take n).toArray.size) (hB : pickB .any (l.take n).toArray is (Array.replicate (l.take n).toArray.size false) = true) (hS : S w.drew)
    (h : wpPick P (l.take n) S (fun a' => wpAnyH P .any (l.take n).toArray (Only (ThenL P l.toArray Q (l.drop n))) S g (setL is (Array.replicate (l.take n).toArray.size false)) a' w.drew) is a) : (Code.region id l.toArray true).wp P Q a w := by
  refine wp_region_any hm (any_lasts l k n hk hlast ?_)
  have h2 := held_pick (P := P) (md := .any) (Q := ThenL P l.toArray Q (l.drop n)) (S := S) hsel (g := g) hS is (Array.replicate (l.take n).toArray.size false) a hB h
  rw [hg] at h2
  exact only_any _ _ _ _ (wpAny_of_held (S := S) _ _ _ _ h2)
end Go.Proofs.YtikfgddgfddbaaaGreatDoor

/- A region that draws its order: some operations are taken ahead of all; the last ones, which wait for all the rest, are split off. No program in sight. -/
namespace Go.Proofs.YtikfgddgfddbaaaGreatDoor
open Go.RowKit
set_option linter.unusedVariables false
variable {P : Program} {Q : Exit → Act → World → Prop} {md : Region.Mode} {ops : Array Oper} {oz : Oper}

/-- The operation oz waits for i, over others. -/
inductive Dep (md : Region.Mode) (ops : Array Oper) (oz : Oper) : Nat → Prop
  | here {e : Edge} : e ∈ oz.after → Region.binds md e = true → Dep md ops oz e.on
  | step {i : Nat} {o : Oper} {f : Edge} : Dep md ops oz i → ops[i]? = some o → f ∈ o.after → Region.binds md f = true → Dep md ops oz f.on

theorem Dep.on {listed : Array Bool} (hc : Closed md ops listed) (h : ∀ e ∈ oz.after, Region.binds md e = true → listed.getD e.on false = true) {i : Nat} (hd : Dep md ops oz i) : listed.getD i false = true := by
  induction hd with
  | here he hb => exact h _ he hb
  | step _ ho hf hb ih => exact hc _ _ ho ih _ hf hb

theorem ready_push_some2 {L0 : List Nat} (hz : ∀ e ∈ oz.after, Region.binds md e = true → e.on < ops.size) (hz2 : ∀ i, i < ops.size → i ∈ L0 ∨ Dep md ops oz i) (hfwd : ∀ i o, ops[i]? = some o → ∀ e ∈ o.after, Region.binds md e = true → e.on < i) {listed : Array Bool} (hs : listed.size = ops.size) (hcl : Closed md ops listed) (h0L : ∀ i ∈ L0, listed.getD i false = true) (hn : ¬ AllOn ops.size listed) :
    ∀ j, j ∈ Region.ready md (ops.push oz) (listed.push false) → j ∈ Region.ready md ops listed := by
  intro j hj
  rw [mem_ready] at hj ⊢
  obtain ⟨h0, o, ho, hall⟩ := hj
  have hlt : j < ops.size + 1 := by have := (Array.getElem?_eq_some_iff.1 ho).1; simpa using this
  by_cases hj' : j = ops.size
  · subst hj'
    have : o = oz := by simpa using ho.symm
    subst this
    refine absurd (fun i hi => ?_) hn
    rcases hz2 i hi with h | h
    · exact h0L i h
    · refine Dep.on hcl (fun e he hb => ?_) h
      have h1 := hall e he hb
      have h2 := hz e he hb
      rwa [getD_push_lt (by omega)] at h1
  · have hjl : j < ops.size := by omega
    rw [Array.getElem?_push_lt hjl] at ho
    rw [getD_push_lt (by omega)] at h0
    refine ⟨h0, o, by rw [Array.getElem?_eq_getElem hjl]; exact ho, fun e he hb => ?_⟩
    have h1 := hall e he hb
    have h2 := hfwd j o (by rw [Array.getElem?_eq_getElem hjl]; exact ho) e he hb
    rwa [getD_push_lt (by omega)] at h1

theorem wpAny_last2 {Q' : Exit → Act → World → Prop} {L0 : List Nat} (hgd : ∀ (i : Nat) (o : Oper), ops[i]? = some o → o.guard = none) (hgz : oz.guard = none)
    (hz : ∀ e ∈ oz.after, Region.binds md e = true → e.on < ops.size) (hz2 : ∀ i, i < ops.size → i ∈ L0 ∨ Dep md ops oz i)
    (hfwd : ∀ i o, ops[i]? = some o → ∀ e ∈ o.after, Region.binds md e = true → e.on < i)
    (hP : ∀ c a w, Q' (.panic c) a w → Q (.panic c) a w) (hL : LetsOut Q' → LetsOut Q) (hN : ∀ a w, Q' .normal a w → oz.wp P a w (fun a w => Q .normal a w) Q ∨ (oz.asks P a w ∧ LetsOut Q)) :
    ∀ (fuel : Nat) (listed : Array Bool) (a : Act) (w : World), listed.size = ops.size → Closed md ops listed → (∀ i ∈ L0, listed.getD i false = true) → wpAny P md ops Q' fuel listed a w → wpAny P md (ops.push oz) Q (fuel + 1) (listed.push false) a w := by
  have lastStep : ∀ (fuel : Nat) (listed : Array Bool) (a : Act) (w : World), listed.size = ops.size → AllOn ops.size listed → Q' .normal a w → wpAny P md (ops.push oz) Q (fuel + 1) (listed.push false) a w := by
    intro fuel listed a w hs hall hq
    have hmem : ops.size ∈ Region.ready md (ops.push oz) (listed.push false) := by
      rw [mem_ready]
      refine ⟨by rw [← hs]; simp [Array.getD], oz, by simp, fun e he hb => ?_⟩
      have := hz e he hb
      rw [getD_push_lt (by omega)]
      exact hall _ this
    refine ⟨fun h => (by rw [h] at hmem; cases hmem), fun j hj => ?_⟩
    have hje := ready_push_all hs hall j hj
    subst hje
    have hdone : Region.ready md (ops.push oz) ((listed.push false).setIfInBounds ops.size true) = [] := by
      refine List.eq_nil_iff_forall_not_mem.2 fun k hk => ?_
      rw [mem_ready] at hk
      obtain ⟨h0, o, ho, _⟩ := hk
      have hlt : k < ops.size + 1 := by have := (Array.getElem?_eq_some_iff.1 ho).1; simpa using this
      by_cases hk' : k = ops.size
      · subst hk'; simp [Array.getD, hs] at h0
      · have h1 : k < ops.size := by omega
        have h2 := hall k h1
        have h3 : k < listed.size := by omega
        simp [Array.getD, h3, Nat.lt_succ_of_lt h3, Ne.symm hk', Array.getElem_push_lt h3] at h0 h2
        rw [h0] at h2; cases h2
    unfold wpOp
    simp only [Array.getElem?_push_size]
    have hw : Region.wanted oz (yielded (ops.push oz) a.tmps) = true := by simp [Region.wanted, hgz]
    rw [if_pos hw]
    refine (hN a w hq).imp (fun hx => Oper.wp_mono (fun a' w' h' => ?_) hx) id
    cases fuel with
    | zero => exact ⟨hdone, h'⟩
    | succ fuel => exact ⟨fun _ => h', fun k hk => by rw [hdone] at hk; cases hk⟩
  intro fuel
  induction fuel with
  | zero =>
    intro listed a w hs _ _ h
    exact lastStep 0 listed a w hs (all_of_none hfwd hs h.1) h.2
  | succ fuel ih =>
    intro listed a w hs hcl h0L h
    by_cases hall : AllOn ops.size listed
    · refine lastStep (fuel + 1) listed a w hs hall (h.1 (List.eq_nil_iff_forall_not_mem.2 fun k hk => ?_))
      rw [mem_ready] at hk
      obtain ⟨h0, o, ho, _⟩ := hk
      have h1 := (Array.getElem?_eq_some_iff.1 ho).1
      have h2 := hall k h1
      have h3 : k < listed.size := by omega
      simp [Array.getD, h3] at h0 h2
      rw [h0] at h2; cases h2
    · refine ⟨fun hr => ?_, fun j hj => ?_⟩
      · have : Region.ready md ops listed = [] := List.eq_nil_iff_forall_not_mem.2 fun k hk => by
          have hk2 : k ∈ Region.ready md (ops.push oz) (listed.push false) := by
            rw [mem_ready] at hk ⊢
            obtain ⟨h0, o, ho, hh⟩ := hk
            have h1 := (Array.getElem?_eq_some_iff.1 ho).1
            refine ⟨by rw [getD_push_lt (by omega)]; exact h0, o, by rw [Array.getElem?_push_lt h1, ← Array.getElem?_eq_getElem h1]; exact ho, fun e he hb => ?_⟩
            rw [getD_push_lt (by have := hfwd k o ho e he hb; omega)]
            exact hh e he hb
          rw [hr] at hk2; cases hk2
        exact absurd (all_of_none hfwd hs this) hall
      · have hj' := ready_push_some2 hz hz2 hfwd hs hcl h0L hall j hj
        have h1 := h.2 j hj'
        have hlt : j < ops.size := by
          rw [mem_ready] at hj'
          obtain ⟨_, o, ho, _⟩ := hj'
          exact (Array.getElem?_eq_some_iff.1 ho).1
        unfold wpOp at h1 ⊢
        rw [Array.getElem?_push_lt hlt]
        rw [Array.getElem?_eq_getElem hlt] at h1
        simp only at h1 ⊢
        have hg := hgd j _ (Array.getElem?_eq_getElem hlt)
        have hw1 : Region.wanted ops[j] (yielded (ops.push oz) a.tmps) = true := by simp [Region.wanted, hg]
        have hw2 : Region.wanted ops[j] (yielded ops a.tmps) = true := by simp [Region.wanted, hg]
        rw [if_pos hw1]
        rw [if_pos hw2] at h1
        rcases h1 with h1 | ⟨h1, h2⟩
        · refine .inl (wp_turn (fun a' w' h' => ?_) hP hL h1)
          rw [set_push (by omega)]
          exact ih _ _ _ (by simp [hs]) (hcl.set hj') (fun i hi => getD_set_true (h0L i hi)) h'
        · exact .inr ⟨h1, hL h2⟩

/-- The operation j waits for i. -/
def edgeB (md : Region.Mode) (ops : Array Oper) (j i : Nat) : Bool := match ops[j]? with | some o => o.after.toList.any (fun f => Region.binds md f && f.on == i) | none => false

theorem edgeB_spec {j i : Nat} (h : edgeB md ops j i = true) : ∃ o f, ops[j]? = some o ∧ f ∈ o.after ∧ Region.binds md f = true ∧ f.on = i := by
  unfold edgeB at h
  split at h
  · rename_i o ho
    simp only [List.any_eq_true, Bool.and_eq_true, beq_iff_eq, Array.mem_toList_iff] at h
    obtain ⟨f, hf, hb, hon⟩ := h
    exact ⟨o, f, ho, hf, hb, hon⟩
  · cases h

/-- What is known to be waited for, over the given links. -/
def viaB (md : Region.Mode) (ops : Array Oper) (known : List Nat) : List (Nat × Nat) → List Nat
  | [] => known
  | (i, j) :: r => viaB md ops (if (known.contains j && edgeB md ops j i) = true then i :: known else known) r

theorem viaB_dep : ∀ (r : List (Nat × Nat)) (known : List Nat), (∀ i ∈ known, Dep md ops oz i) → ∀ i ∈ viaB md ops known r, Dep md ops oz i
  | [], known, h => h
  | (i, j) :: r, known, h => by
    unfold viaB
    refine viaB_dep r _ ?_
    by_cases hc : (known.contains j && edgeB md ops j i) = true
    · rw [if_pos hc]
      simp only [Bool.and_eq_true] at hc
      obtain ⟨hj, hx⟩ := hc
      obtain ⟨o, f, ho, hf, hb, hon⟩ := edgeB_spec hx
      intro m hm
      rcases List.mem_cons.1 hm with rfl | hm
      · rw [← hon]
        exact .step (h j (by simpa using hj)) ho hf hb
      · exact h m hm
    · rw [if_neg hc]
      exact h

/-- oz is the last, but for those of L0. -/
def splitB2 (md : Region.Mode) (ops : Array Oper) (oz : Oper) (L0 : List Nat) (via : List (Nat × Nat)) : Bool :=
  ops.toList.all (fun o => o.guard.isNone) && oz.guard.isNone && oz.after.toList.all (fun e => !Region.binds md e || decide (e.on < ops.size)) &&
  (List.range ops.size).all (fun i => L0.contains i || (viaB md ops ((oz.after.toList.filter (Region.binds md)).map (·.on)) via).contains i) &&
  (List.range ops.size).all (fun i => match ops[i]? with | some o => o.after.toList.all (fun e => !Region.binds md e || decide (e.on < i)) | none => true)

theorem one_last2 {Q' : Exit → Act → World → Prop} {L0 : List Nat} {via : List (Nat × Nat)} {a : Act} {w : World} {fuel : Nat} {listed : Array Bool} (hB : splitB2 md ops oz L0 via = true) (hs : listed.size = ops.size) (hcl : Closed md ops listed) (h0L : ∀ i ∈ L0, listed.getD i false = true)
    (hP : ∀ c a w, Q' (.panic c) a w → Q (.panic c) a w) (hL : LetsOut Q' → LetsOut Q) (hN : ∀ a w, Q' .normal a w → oz.wp P a w (fun a w => Q .normal a w) Q ∨ (oz.asks P a w ∧ LetsOut Q))
    (h : wpAny P md ops Q' fuel listed a w) : wpAny P md (ops.push oz) Q (fuel + 1) (listed.push false) a w := by
  simp only [splitB2, Bool.and_eq_true, List.all_eq_true, List.mem_range, decide_eq_true_eq, Option.isNone_iff_eq_none, Array.mem_toList_iff, Bool.or_eq_true, Bool.not_eq_true'] at hB
  obtain ⟨⟨⟨⟨h1, h2⟩, h3⟩, h4⟩, h5⟩ := hB
  refine wpAny_last2 (L0 := L0) (fun i o ho => h1 o (Array.mem_of_getElem? ho)) h2 (fun e he hb => ?_) (fun i hi => ?_) (fun i o ho e he hb => ?_) hP hL hN fuel listed a w hs hcl h0L h
  · rcases h3 e he with h | h
    · rw [hb] at h; cases h
    · exact h
  · rcases h4 i hi with h | h
    · exact .inl (by simpa using h)
    · refine .inr (viaB_dep via _ (fun j hj => ?_) i (by simpa using h))
      obtain ⟨e, he, rfl⟩ := List.mem_map.1 hj
      obtain ⟨he1, he2⟩ := List.mem_filter.1 he
      exact .here (by simpa using he1) he2
  · have := h5 i (Array.getElem?_eq_some_iff.1 ho).1
    rw [ho] at this
    simp only [List.all_eq_true, Array.mem_toList_iff, Bool.or_eq_true, Bool.not_eq_true', decide_eq_true_eq] at this
    rcases this e he with h | h
    · rw [hb] at h; cases h
    · exact h

/-- Each from n on is the last of those up to it, but for those of L0. -/
def lastsB2 (l : List Oper) (L0 : List Nat) (via : List (Nat × Nat)) : Nat → Nat → Bool
  | 0, _ => true
  | k + 1, n => (match l[n]? with | some oz => splitB2 .any (l.take n).toArray oz L0 via | none => false) && lastsB2 l L0 via k (n + 1)

def closedB (md : Region.Mode) (ops : Array Oper) (listed : Array Bool) : Bool :=
  (List.range ops.size).all fun j => !listed.getD j false || (match ops[j]? with | some o => o.after.toList.all (fun e => !Region.binds md e || listed.getD e.on false) | none => true)

theorem closedB_spec {listed : Array Bool} (h : closedB md ops listed = true) : Closed md ops listed := by
  intro j o ho hj e he hb
  simp only [closedB, List.all_eq_true, List.mem_range, Bool.or_eq_true, Bool.not_eq_true'] at h
  rcases h j (Array.getElem?_eq_some_iff.1 ho).1 with h1 | h1
  · rw [hj] at h1; cases h1
  · rw [ho] at h1
    simp only [List.all_eq_true, Array.mem_toList_iff, Bool.or_eq_true, Bool.not_eq_true'] at h1
    rcases h1 e he with h2 | h2
    · rw [hb] at h2; cases h2
    · exact h2

theorem Closed.pushed {listed : Array Bool} (h : Closed md ops listed) (hs : listed.size = ops.size) (hfwd : ∀ i o, ops[i]? = some o → ∀ e ∈ o.after, Region.binds md e = true → e.on < i) : Closed md (ops.push oz) (listed.push false) := by
  intro j o ho hj e he hb
  have hlt : j < ops.size + 1 := by have := (Array.getElem?_eq_some_iff.1 ho).1; simpa using this
  by_cases hj2 : j = ops.size
  · subst hj2
    exfalso
    simp [Array.getD, ← hs] at hj
  · have h1 : j < ops.size := by omega
    rw [Array.getElem?_push_lt h1] at ho
    rw [getD_push_lt (by omega)] at hj
    have ho' : ops[j]? = some o := by rw [Array.getElem?_eq_getElem h1]; exact ho
    have h2 := hfwd j o ho' e he hb
    rw [getD_push_lt (by omega)]
    exact h j o ho' hj e he hb

theorem any_lasts2 (l : List Oper) (L0 : List Nat) (via : List (Nat × Nat)) {a : Act} {w : World} : ∀ (k n fuel : Nat) (listed : Array Bool), n + k = l.length → lastsB2 l L0 via k n = true → listed.size = (l.take n).toArray.size → Closed .any (l.take n).toArray listed → (∀ i ∈ L0, listed.getD i false = true) →
    wpAny P .any (l.take n).toArray (ThenL P l.toArray Q (l.drop n)) fuel listed a w →
    wpAny P .any l.toArray Q (fuel + k) (listed ++ Array.replicate k false) a w
  | 0, n, fuel, listed, hn, _, hs, hc, h0, h => by
    have e1 : l.take n = l := List.take_of_length_le (by omega)
    have e2 : l.drop n = [] := List.drop_of_length_le (by omega)
    have e3 : ThenL P l.toArray Q [] = Q := by
      funext e a w
      cases e <;> simp [ThenL, wpList]
    rw [e1, e2, e3] at h
    simpa using h
  | k + 1, n, fuel, listed, hn, hB, hs, hc, h0, h => by
    simp only [lastsB2, Bool.and_eq_true] at hB
    obtain ⟨h1, h2⟩ := hB
    have hlt : n < l.length := by omega
    rw [List.getElem?_eq_getElem hlt] at h1
    have e1 : l.take (n + 1) = l.take n ++ [l[n]] := List.take_succ_eq_append_getElem hlt
    have e2 : l.drop n = l[n] :: l.drop (n + 1) := List.drop_eq_getElem_cons hlt
    have e3 : (l.take (n + 1)).toArray = (l.take n).toArray.push l[n] := by rw [e1]; simp
    have h1' := h1
    simp only [splitB2, Bool.and_eq_true, List.all_eq_true, List.mem_range, Option.isNone_iff_eq_none, Array.mem_toList_iff, Bool.or_eq_true, Bool.not_eq_true', decide_eq_true_eq] at h1'
    have hgz : l[n].guard = none := h1'.1.1.1.2
    have hfwd : ∀ (i : Nat) (o : Oper), (l.take n).toArray[i]? = some o → ∀ e ∈ o.after, Region.binds .any e = true → e.on < i := by
      intro i o ho e he hb
      have := h1'.2 i (Array.getElem?_eq_some_iff.1 ho).1
      rw [ho] at this
      simp only [List.all_eq_true, Array.mem_toList_iff, Bool.or_eq_true, Bool.not_eq_true', decide_eq_true_eq] at this
      rcases this e he with h | h
      · rw [hb] at h; cases h
      · exact h
    have step := one_last2 (P := P) (md := .any) (ops := (l.take n).toArray) (oz := l[n]) (Q := ThenL P l.toArray Q (l.drop (n + 1))) (Q' := ThenL P l.toArray Q (l.drop n)) (L0 := L0) (via := via) (a := a) (w := w) (fuel := fuel) (listed := listed) h1 hs hc h0 (fun _ _ _ h => h) (fun ⟨a, w, h⟩ => ⟨a, w, h⟩) (fun a w hq => by
      have hq' : wpList P l.toArray Q (l.drop n) a w := hq
      rw [e2] at hq'
      unfold wpList at hq'
      have hw : Region.wanted l[n] (yielded l.toArray a.tmps) = true := by simp [Region.wanted, hgz]
      rw [if_pos hw] at hq'
      rcases hq' with hq' | ⟨h3, h4⟩
      · exact .inl (wp_turn (fun _ _ h => h) (fun _ _ _ h => h) (fun ⟨a, w, h⟩ => ⟨a, w, h⟩) hq')
      · exact .inr ⟨h3, by obtain ⟨a, w, h⟩ := h4; exact ⟨a, w, h⟩⟩) h
    rw [← e3] at step
    have := any_lasts2 l L0 via k (n + 1) (fuel + 1) (listed.push false) (by omega) h2 (by rw [e3, Array.size_push, Array.size_push, hs]) (by rw [e3]; exact hc.pushed hs hfwd) (fun i hi => by
      have hx := h0 i hi
      by_cases hi2 : i < listed.size
      · rw [getD_push_lt hi2]; exact hx
      · simp [Array.getD, hi2] at hx) step
    have e5 : listed.push false ++ Array.replicate k false = listed ++ Array.replicate (k + 1) false := by
      apply Array.ext_getElem?
      intro i
      simp only [Array.getElem?_append, Array.getElem?_push, Array.size_push, Array.getElem?_replicate]
      by_cases h1 : i < listed.size
      · have h2 : i < listed.size + 1 := by omega
        have h3 : ¬ i = listed.size := by omega
        simp [h1, h2, h3]
      · by_cases h2 : i = listed.size
        · subst h2; simp
        · have h3 : ¬ i < listed.size + 1 := by omega
          simp [h1, h3]
          have e : i - (listed.size + 1) < k ↔ i - listed.size < k + 1 := by omega
          simp [e]
    rw [e5] at this
    rw [show fuel + (k + 1) = fuel + 1 + k by omega]
    exact this

theorem wpPick_mono {l : List Oper} {S : World → Prop} {L L' : Act → Prop} (hL : ∀ a, L a → L' a) : ∀ (is : List Nat) (a : Act), wpPick P l S L is a → wpPick P l S L' is a
  | [], a, h => hL a h
  | i :: is, a, ⟨o, ho, v, hy, h⟩ => ⟨o, ho, v, hy, wpPick_mono hL is _ h⟩

/-- What holds in every order holds under the condition True. -/
theorem held_true : ∀ (fuel : Nat) (listed : Array Bool) (a : Act) (w : World), wpAny P md ops Q fuel listed a w → wpAnyH P md ops Q (fun _ => True) fuel listed a w := by
  intro fuel
  induction fuel with
  | zero => exact fun _ _ _ h => h
  | succ fuel ih =>
    rintro listed a w ⟨h1, h2⟩
    refine ⟨h1, fun i hi => ?_⟩
    have h := h2 i hi
    unfold wpOp at h ⊢
    split at h
    · rename_i ho
      exact ⟨trivial, ih _ _ _ h⟩
    · rename_i o ho
      split at h
      · rename_i hw
        rw [if_pos hw]
        exact h.imp (fun h => Oper.wp_mono (fun a w h => ⟨trivial, ih _ _ _ h⟩) h) id
      · rename_i hw
        rw [if_neg hw]
        exact ⟨trivial, ih _ _ _ h⟩

/-- The region: the operations pre ahead of all; picks under S among the first n; the rest of these; then the others one after the other. -/
theorem held_lasts2 {id : Nat} {a : Act} {w : World} {l : List Oper} (n k : Nat) (pre : List Nat) (via : List (Nat × Nat)) (is : List Nat) (g : Nat) (S : World → Prop) (hm : P.follows .mixedOrders = true) (hk : n + k = l.length)
    (hsel0 : Region.noSelect l.toArray = true) (hpre : pickB .any l.toArray pre (Array.replicate l.toArray.size false) = true)
    (hlast : lastsB2 l pre via k n = true) (hset : setL pre (Array.replicate l.toArray.size false) = setL pre (Array.replicate n false) ++ Array.replicate k false) (hsz : (setL pre (Array.replicate n false)).size = (l.take n).toArray.size) (hclo : closedB .any (l.take n).toArray (setL pre (Array.replicate n false)) = true) (hon : (pre.all fun i => (setL pre (Array.replicate n false)).getD i false) = true)
    (hsel : Region.noSelect (l.take n).toArray = true) (hg : g + is.length + k + pre.length = l.toArray.size) (hB : pickB .any (l.take n).toArray is (setL pre (Array.replicate n false)) = true) (hS : S w.drew)
    (h : wpPick P l (fun _ => True) (fun a1 => wpPick P (l.take n) S (fun a' => wpAnyH P .any (l.take n).toArray (Only (ThenL P l.toArray (Only Q) (l.drop n))) S g (setL is (setL pre (Array.replicate n false))) a' w.drew) is a1) pre a) : (Code.region id l.toArray true).wp P Q a w := by
  refine wp_region_any hm (only_any _ _ _ _ (wpAny_of_held (S := fun _ => True) _ _ _ _ ?_))
  have h1 := held_pick (P := P) (md := .any) (Q := Q) (S := fun _ => True) (w := w.drew) hsel0 (g := g + is.length + k) trivial pre (Array.replicate l.toArray.size false) a hpre ?_
  · rw [hg] at h1
    exact h1
  · refine wpPick_mono (fun a1 h2 => ?_) pre a h
    refine held_true _ _ _ _ ?_
    rw [hset]
    refine any_lasts2 l pre via k n (g + is.length) _ hk hlast hsz (closedB_spec hclo) (fun i hi => by simpa using List.all_eq_true.1 hon i hi) ?_
    exact only_any _ _ _ _ (wpAny_of_held (S := S) _ _ _ _ (held_pick (P := P) (md := .any) (S := S) hsel (g := g) hS is _ a1 hB h2))
end Go.Proofs.YtikfgddgfddbaaaGreatDoor

/- The tables lie low. No walk. -/
namespace Go.Proofs.YtikfgddgfddbaaaGreatDoor
open Go.RowKit Go.Shelf
set_option linter.unusedVariables false

/-- The variables that are read lie below B. -/
def LayLt (B : Nat) : Prop := 1 < B ∧ 0 < B

theorem tab_at : Tryz.prog.globalNamed "internal/strconv.uint64pow10" = some 1 := by kernel_rfl

theorem Lay.lt {w : World} (h : Lay w) : LayLt w.heap.size := by
  refine ⟨?_, ?_⟩
  · have h := h.tab
    unfold Lib.TabIs World.var? at h
    rw [tab_at] at h
    rcases Nat.lt_or_ge 1 w.heap.size with h' | h'
    · exact h'
    · simp only [Option.bind_some] at h
      rw [Array.getElem?_eq_none h'] at h
      simp at h
  · obtain ⟨m, hm⟩ := h.max
    exact World.block_lt_of_cell? w _ hm

theorem Lay.below {w w' : World} {B : Nat} (h : Lay w) (hb : Below B w w') (hB : LayLt B) : Lay w' := by
  refine ⟨?_, ?_⟩
  · have h := h.tab
    unfold Lib.TabIs World.var? at h ⊢
    rw [tab_at] at h ⊢
    simp only [Option.bind_some] at h ⊢
    rw [hb.block _ hB.1]
    exact h
  · obtain ⟨m, hm⟩ := h.max
    exact ⟨m, (hb.cell hB.2).trans hm⟩

end Go.Proofs.YtikfgddgfddbaaaGreatDoor

/- Walks: coin's read. -/
namespace Go.Proofs.YtikfgddgfddbaaaGreatDoor
open Go.RowKit Go.Shelf
open Go.Lib (decDigits nDigits)
set_option linter.unusedVariables false
set_option linter.unusedSimpArgs false

theorem c_double (V : World) (K : Nat) (hK : K < 10 ^ eK) (hL : Lay V) : Calls Tryz.prog 53 #[.string (numB K), .string (numB K)] V fun e w' => e = .returned (.string (numB (K + K))) ∧ Below V.heap.size V w' := by
  have dK := numB_small hK (by decide) (by decide)
  have h := c_plus V (numB K) (numB K) (numB_sz dK) (numB_sz dK) hL
  rw [natB_num dK dK (numB_small (fit_add hK hK) (by decide) (by decide))] at h
  exact h

theorem c_inc (V : World) (K : Nat) (hK : K < 10 ^ (eK + 1)) (hL : Lay V) : Calls Tryz.prog 53 #[.string (numB K), .string ⟨#[49]⟩] V fun e w' => e = .returned (.string (numB (K + 1))) ∧ Below V.heap.size V w' := by
  have dK := numB_small hK (by decide) (by decide)
  have e1 : (⟨#[49]⟩ : ByteArray) = numB 1 := by unfold numB; rw [dec_one]
  have d1 : nDigits 1 ≤ 4000 := numB_small (n := 1) (k := 1) (by decide) (by decide) (by decide)
  have h := c_plus V (numB K) (numB 1) (numB_sz dK) (numB_sz d1) hL
  rw [natB_num dK d1 (numB_small (k := eK + 1 + 1) (fit_add hK (Nat.lt_of_lt_of_le (show 1 < 10 by decide) (Nat.le_self_pow (by decide) 10))) (by decide) (by decide))] at h
  rw [e1]
  exact h

set_option maxRecDepth 100000 in
set_option maxHeartbeats 2000000 in
theorem c_read (w : World) (g bn bd : Nat) (b : ByteArray) (N D K T u : Nat) (ht : Toss w g bn bd b N D K T u) (hf : Fits N D K T) (hL : Lay w) (hs : b.size ≤ 100000) (hu : u < b.size) (hG : LayLt g) :
    Calls Tryz.prog 54 #[.pointer (some ⟨g, 0, none⟩)] w fun e w' =>
      Below g w w' ∧ e = .returned (.func (.func 27) #[.pointer (some ⟨g, 0, none⟩)] #[]) ∧ Toss w' g bn bd b N D (K + K + (if b[u] = 49 then 1 else 0)) (T + T) (u + 1) := by
  have HB := hid ht.blk
  have HN := hid ht.num
  have HD := hid ht.den
  have LN := hid ht.ln
  have LD := hid ht.ld
  have LG := hid (Blk.lt ht.blk)
  have HL := hid hL; have HS := hid hs; have HG := hid hG
  have c1 : w.cell? ⟨g, 1, none⟩ = some (.string (numB K)) := ht.blk.cell 1
  have c2 : w.cell? ⟨g, 2, none⟩ = some (.string (numB T)) := ht.blk.cell 2
  have P1 := fun V hV => hid (c_double V K hf.k hV)
  have P2 := fun V hV => hid (c_double V T hf.t hV)
  have P3 := fun V hV => hid (c_inc V (K + K) (fit_add hf.k hf.k) hV)
  obtain ⟨sk, hsk⟩ : ∃ s, numB K = s := ⟨_, rfl⟩
  obtain ⟨st, hst⟩ : ∃ s, numB T = s := ⟨_, rfl⟩
  rw [hsk] at c1 P1 HB
  rw [hst] at c2 P2 HB
  clear hsk hst ht hf hL hs hG
  go_enter Tryz.func54, Tryz.ntmps54
  go_wp2_with fail
  refine held_lasts2 20 6 [1] [(13, 14), (12, 13), (11, 12), (17, 18), (16, 17), (15, 16), (20, 21), (23, 24)] [0, 2, 3, 4, 5, 6, 7, 8, 9, 11, 12, 13, 14, 15, 16, 17, 18] 2 (fun W' => W'.cell? ⟨g, 1, none⟩ = some (.string sk) ∧ W'.cell? ⟨g, 2, none⟩ = some (.string st)) (by kernel_rfl) (by kernel_rfl) (by kernel_rfl) (by kernel_rfl) (by kernel_rfl) (by kernel_rfl) (by kernel_rfl) (by kernel_rfl) (by kernel_rfl) (by kernel_rfl) (by kernel_rfl) (by kernel_rfl) ⟨c1, c2⟩ ?_
  iterate 1
    refine ⟨_, rfl, ?_⟩
    apply Exists.intro
    refine ⟨.inl ⟨by rfl, ?_⟩, ?_⟩
    · (intro W' hW'
       clear hW'
       go_simp
       try (with_reducible rfl))
    (dsimp only [Act.put]; try simp only [List.setIfInBounds_toArray, List.set_cons_zero, List.set_cons_succ])
  iterate 17
    refine ⟨_, rfl, ?_⟩
    apply Exists.intro
    refine ⟨.inl ⟨by rfl, ?_⟩, ?_⟩
    · (intro W' hW'
       obtain ⟨q1, q2⟩ := hW'
       go_simp
       try (with_reducible rfl))
    (dsimp only [Act.put]; try simp only [List.setIfInBounds_toArray, List.set_cons_zero, List.set_cons_succ])
  refine held_one (i := 10) (by kernel_rfl) (by rfl) (by rfl) ?_
  go_wp2_with fail
  refine (P1 _ (HL.out.call (Below.refl _ _).drew)).out.mono ?_; rintro e w1 ⟨rfl, hb1⟩
  have y1 := hid (show Below w.heap.size w w1 from (Below.refl _ _).drew.trans hb1)
  have B1 := hid (HB.out.call y1.out)
  clear hb1
  go_wp2_with fail
  refine ⟨⟨B1.out.cell 1, B1.out.cell 2⟩, ?_⟩
  refine held_one (i := 19) (by kernel_rfl) (by rfl) (by rfl) ?_
  go_wp2_with fail
  refine (P2 _ (HL.out.call y1.out)).out.mono ?_; rintro e w2 ⟨rfl, hb2⟩
  have y2 := hid (bnext y1.out hb2)
  have B2 := hid (HB.out.call y2.out)
  have N2 := hid (HN.out.call y2.out); have D2 := hid (HD.out.call y2.out)
  clear hb2
  go_wp2_with fail
  refine ⟨⟨B2.out.cell 1, B2.out.cell 2⟩, ?_⟩
  refine wpAnyH_done (by kernel_rfl) ?_ _
  simp only [Only, ThenL, List.drop_succ_cons, List.drop_zero]
  have d1 : w2.cell? ⟨g, 1, none⟩ = some (.string sk) := B2.out.cell 1
  have d2 : w2.cell? ⟨g, 2, none⟩ = some (.string st) := B2.out.cell 2
  have f1 := B2.out.free 1
  have f2 := B2.out.free 2
  obtain ⟨kk, hkk⟩ : ∃ s, numB (K + K) = s := ⟨_, rfl⟩
  obtain ⟨tt, htt⟩ : ∃ s, numB (T + T) = s := ⟨_, rfl⟩
  rw [hkk, htt]
  have HKK := hid hkk; have HTT := hid htt
  rw [hkk] at P3
  clear hkk htt c1 c2 P1 P2
  go_wp2_with fail
  simp only [Only]
  have b3 : Blk ((w2.setCell ⟨g, 1, none⟩ (.string kk)).setCell ⟨g, 2, none⟩ (.string tt)) g (tossC b kk tt bn bd false 0 u) 44 := by
    have := (B2.out.set 1 (.string kk)).set 2 (.string tt)
    simpa [tossC] using this
  have z3 : Below g w2 ((w2.setCell ⟨g, 1, none⟩ (.string kk)).setCell ⟨g, 2, none⟩ (.string tt)) := (((Below.refl g w2).setCell (Nat.le_refl _) _).setCell (Nat.le_refl _) _)
  obtain ⟨w3, hw3⟩ : ∃ w3, (w2.setCell ⟨g, 1, none⟩ (.string kk)).setCell ⟨g, 2, none⟩ (.string tt) = w3 := ⟨_, rfl⟩
  rw [hw3] at b3 z3 ⊢
  have B3 := hid b3
  have N3 := hid (N2.out.below z3 LN.out); have D3 := hid (D2.out.below z3 LD.out)
  have y3 := hid ((y2.out.mono (Nat.le_of_lt LG.out)).trans z3)
  have L3 := hid ((HL.out.call y2.out).below z3 HG.out)
  have HZ3 := hid z3
  have HW3 := hid hw3
  clear b3 z3 hw3 d1 d2 f1 f2
  have d0 : w3.cell? ⟨g, 0, none⟩ = some (.string b) := B3.out.cell 0
  have d6 : w3.cell? ⟨g, 6, none⟩ = some (.int .i64 u) := B3.out.cell 6
  have h0 : (0 : Int) ≤ (u : Int) := by omega
  have h1 : (u : Int) < (b.size : Int) := by omega
  go_wp2_with fail
  refine held_plain [0, 1, 2, 3, 4, 5, 6, 7, 8, 9, 10] 0 (fun W' => W'.cell? ⟨g, 0, none⟩ = some (.string b) ∧ W'.cell? ⟨g, 6, none⟩ = some (.int .i64 u)) (by kernel_rfl) (by kernel_rfl) (by kernel_rfl) (by kernel_rfl) ⟨d0, d6⟩ ?_
  iterate 11
    refine ⟨_, rfl, ?_⟩
    apply Exists.intro
    refine ⟨.inl ⟨by rfl, ?_⟩, ?_⟩
    · (intro W' hW'
       obtain ⟨q1, q2⟩ := hW'
       go_simp
       try (with_reducible rfl))
    (dsimp only [Act.put]; try simp only [List.setIfInBounds_toArray, List.set_cons_zero, List.set_cons_succ])
  refine wpAnyH_done (by kernel_rfl) ?_ _
  simp only [Only]
  have e1 : ((b[u].toNat : Int) == 49) = decide (b[u] = 49) := by
    rw [Bool.eq_iff_iff, beq_iff_eq, decide_eq_true_iff]
    constructor
    · intro h
      apply UInt8.toNat_inj.1
      simp
      omega
    · intro h
      rw [h]
      rfl
  rw [e1]
  have d1 : w3.cell? ⟨g, 1, none⟩ = some (.string kk) := B3.out.cell 1
  have f1 := B3.out.free 1
  have f6 := B3.out.free 6
  have q6 : IntKind.i64.wrap ((u : Int) + 1) = (u : Int) + 1 := IntWalk.i64_in _ ⟨by omega, by have := HS.out; omega⟩
  clear e1
  by_cases hb : b[u] = 49
  · simp only [hb, decide_true, if_true]
    have HBU := hid hb
    clear hb
    go_wp2_with fail
    refine (P3 _ (L3.out.call (Below.refl _ _).drew)).out.mono ?_; rintro e w4 ⟨rfl, hb4⟩
    have y34 := hid (show Below w3.heap.size w3 w4 from (Below.refl _ _).drew.trans hb4)
    clear hb4
    have lg3 := Blk.lt B3.out
    have B4 := hid (B3.out.call y34.out); have N4 := hid (N3.out.call y34.out); have D4 := hid (D3.out.call y34.out)
    have y4 := hid (y3.out.trans (y34.out.mono (Nat.le_of_lt lg3)))
    have g1 : w4.cell? ⟨g, 1, none⟩ = some (.string kk) := B4.out.cell 1
    have g6 : w4.cell? ⟨g, 6, none⟩ = some (.int .i64 u) := B4.out.cell 6
    have k1 := B4.out.free 1
    have k6 := B4.out.free 6
    clear d0 d1 d6 f1 f6 lg3
    go_wp2_with fail
    go_ret
    have r := (B4.out.set 1 (.string (numB (K + K + 1)))).set 6 (.int .i64 ((u : Int) + 1))
    refine ⟨(y4.out.setCell (Nat.le_refl _) _).setCell (Nat.le_refl _) _, rfl, ?_⟩
    refine ⟨?_, (N4.out.other (by simp; have := LN.out; omega) _).other (by simp; have := LN.out; omega) _, (D4.out.other (by simp; have := LD.out; omega) _).other (by simp; have := LD.out; omega) _, LN.out, LD.out⟩
    rw [HTT.out, show ((u + 1 : Nat) : Int) = (u : Int) + 1 by omega]
    exact r
  · simp only [hb, decide_false, if_false, Nat.add_zero]
    have HBU := hid hb
    clear hb d1 f1
    go_wp2_with fail
    go_ret
    have r := (show Blk w3.drew g (tossC b kk tt bn bd false 0 u) 44 from B3.out).set 6 (.int .i64 ((u : Int) + 1))
    refine ⟨y3.out.drew.setCell (Nat.le_refl _) _, rfl, ?_⟩
    refine ⟨?_, (N3.out).other (by simp; have := LN.out; omega) _, (D3.out).other (by simp; have := LD.out; omega) _, LN.out, LD.out⟩
    rw [HKK.out, HTT.out, show ((u + 1 : Nat) : Int) = (u : Int) + 1 by omega]
    exact r
end Go.Proofs.YtikfgddgfddbaaaGreatDoor

/- Walks: coin.parts, geom.ratio. -/
namespace Go.Proofs.YtikfgddgfddbaaaGreatDoor
open Go.RowKit Go.Shelf
open Go.Lib (decDigits nDigits)
set_option linter.unusedVariables false

/-- The first byte of a valid text tells whether it is negative. -/
theorem qE_head {s W : ByteArray} (h : qE s = 0) (hW : cW s = W) : ∃ h0 : 0 < W.size, ((W[0].toNat : Int) == 45) = iM W := by
  subst hW
  have h1 := (qE_zero h).1
  have h2 := fB_dig (iB_form (qB_whole h1))
  have h3 := (formB_iff.1 (iB_form (qB_whole h1))).1
  obtain ⟨l, hl⟩ : ∃ l, (cW s).data.toList = l := ⟨_, rfl⟩
  have e : cW s = ⟨⟨l⟩⟩ := by
    apply ByteArray.ext
    rw [← hl]
  rw [e] at h2 h3 ⊢
  cases l with
  | nil => exact absurd rfl h3
  | cons b r =>
    refine ⟨Nat.succ_pos _, ?_⟩
    have e2 : (ByteArray.mk ⟨b :: r⟩)[0]'(Nat.succ_pos _) = b := rfl
    have e3 : iM ⟨⟨b :: r⟩⟩ = ((45 : UInt8) == b) := by
      simp [iM, Lib.hasPrefix, List.isPrefixOf]
    rw [e3]
    show ((((ByteArray.mk ⟨b :: r⟩)[0]'(Nat.succ_pos _)).toNat : Int) == 45) = _
    rw [e2, Bool.eq_iff_iff, beq_iff_eq, beq_iff_eq]
    constructor
    · intro h
      apply UInt8.toNat_inj.1
      simp
      omega
    · intro h
      rw [← h]
      rfl

/-- The error of coin.parts. -/
def cPE (s : ByteArray) : Int := if qE s ≠ 0 then qE s else if iM (cW s) = true ∨ 0 < cmpN (cW s).data.toList (qD s).data.toList then 2 else if 1000 < (cW s).size ∨ 1000 < (qD s).size then 5 else 0

set_option maxRecDepth 100000 in
set_option maxHeartbeats 2000000 in
theorem c_parts (w : World) (s : ByteArray) (hs : s.size ≤ 100000) (hL : Lay w) :
    Calls Tryz.prog 24 #[.string s] w fun e w' => e = .returned (.tuple #[.string (if cPE s = 0 then cW s else ⟨#[]⟩), .string (if cPE s = 0 then qD s else ⟨#[]⟩), .int .i64 (cPE s)]) ∧ Below w.heap.size w w' := by
  have HC := hid (q_Parts w s (by omega) hL)
  have z1 := cW_size s
  have z2 := qD_size s
  have HM := fun V => hid (n_Cmp V (cW s) (qD s) (by omega) (by omega))
  by_cases he : qE s = 0
  · have e1 : pW s = cW s := if_pos he
    have e2 : pD s = qD s := if_pos he
    rw [e1, e2, he] at HC
    have HE : cPE s = if iM (cW s) = true ∨ 0 < cmpN (cW s).data.toList (qD s).data.toList then 2 else if 1000 < (cW s).size ∨ 1000 < (qD s).size then 5 else 0 := by
      unfold cPE
      rw [if_neg (fun h => h he)]
    rw [HE]
    clear HE e1 e2
    obtain ⟨D, hD⟩ : ∃ D, qD s = D := ⟨_, rfl⟩
    obtain ⟨W, hW⟩ : ∃ W, cW s = W := ⟨_, rfl⟩
    obtain ⟨hw0, hiM⟩ := qE_head he hW
    clear he
    obtain ⟨m, hm⟩ : ∃ m, iM W = m := ⟨_, rfl⟩
    obtain ⟨c, hc⟩ : ∃ c, cmpN W.data.toList D.data.toList = c := ⟨_, rfl⟩
    rw [hD, hW] at HC HM
    rw [hm] at hiM
    rw [hc] at HM
    rw [hD, hW, hm, hc]
    clear hD hW hm hc z1 z2
    rcases m with _ | _
    · by_cases hc2 : 0 < c
      · have q0 : decide ((0 : Int) < c) = true := by simp; omega
        simp only [hc2, or_true, if_true, show ¬ (2 : Int) = 0 by decide, if_false]
        clear hc2
        go_enter Tryz.func24, Tryz.ntmps24
        go_wp2_with fail
        refine HC.out.mono ?_; rintro e w1 ⟨rfl, hb1⟩
        have y1 := hid hb1; clear hb1
        go_wp2_with fail
        refine (HM _).out.mono ?_; rintro e w2 ⟨rfl, hb2⟩
        have y2 := hid (bnext y1.out hb2); clear hb2
        go_wp2_with fail
        go_ret3
        exact ⟨rfl, y2.out⟩
      · have q0 : decide ((0 : Int) < c) = false := by simp; omega
        simp only [hc2, Bool.false_eq_true, or_self, if_false]
        clear hc2
        by_cases hl1 : 1000 < W.size
        · have q1 : decide ((1000 : Int) < (W.size : Int)) = true := by simp; omega
          simp only [hl1, true_or, if_true, show ¬ (5 : Int) = 0 by decide, if_false]
          clear hl1
          go_enter Tryz.func24, Tryz.ntmps24
          go_wp2_with fail
          refine HC.out.mono ?_; rintro e w1 ⟨rfl, hb1⟩
          have y1 := hid hb1; clear hb1
          go_wp2_with fail
          refine (HM _).out.mono ?_; rintro e w2 ⟨rfl, hb2⟩
          have y2 := hid (bnext y1.out hb2); clear hb2
          go_wp2_with fail
          go_ret3
          exact ⟨rfl, y2.out⟩
        · have q1 : decide ((1000 : Int) < (W.size : Int)) = false := by simp; omega
          by_cases hl2 : 1000 < D.size
          · have q2 : decide ((1000 : Int) < (D.size : Int)) = true := by simp; omega
            simp only [hl2, or_true, if_true, show ¬ (5 : Int) = 0 by decide, if_false]
            clear hl1 hl2
            go_enter Tryz.func24, Tryz.ntmps24
            go_wp2_with fail
            refine HC.out.mono ?_; rintro e w1 ⟨rfl, hb1⟩
            have y1 := hid hb1; clear hb1
            go_wp2_with fail
            refine (HM _).out.mono ?_; rintro e w2 ⟨rfl, hb2⟩
            have y2 := hid (bnext y1.out hb2); clear hb2
            go_wp2_with fail
            go_ret3
            exact ⟨rfl, y2.out⟩
          · have q2 : decide ((1000 : Int) < (D.size : Int)) = false := by simp; omega
            simp only [hl1, hl2, or_self, if_false, if_true]
            clear hl1 hl2
            go_enter Tryz.func24, Tryz.ntmps24
            go_wp2_with fail
            refine HC.out.mono ?_; rintro e w1 ⟨rfl, hb1⟩
            have y1 := hid hb1; clear hb1
            go_wp2_with fail
            refine (HM _).out.mono ?_; rintro e w2 ⟨rfl, hb2⟩
            have y2 := hid (bnext y1.out hb2); clear hb2
            go_wp2_with fail
            go_ret3
            exact ⟨rfl, y2.out⟩
    · simp only [true_or, if_true, show ¬ (2 : Int) = 0 by decide, if_false]
      go_enter Tryz.func24, Tryz.ntmps24
      go_wp2_with fail
      refine HC.out.mono ?_; rintro e w1 ⟨rfl, hb1⟩
      have y1 := hid hb1; clear hb1
      go_wp2_with fail
      go_ret3
      exact ⟨rfl, y1.out⟩
  · have e1 : pW s = ⟨#[]⟩ := if_neg he
    have e2 : pD s = ⟨#[]⟩ := if_neg he
    have e3 : cPE s = qE s := by unfold cPE; rw [if_pos he]
    rw [e1, e2] at HC
    rw [e3, if_neg he, if_neg he]
    obtain ⟨x, hx⟩ : ∃ x, qE s = x := ⟨_, rfl⟩
    rw [hx] at HC he ⊢
    have q0 : (x == 0) = false := by simpa using he
    have q1 : (x != 0) = true := by simpa using he
    clear e1 e2 e3 hx z1 z2 HM
    go_enter Tryz.func24, Tryz.ntmps24
    go_wp2_with fail
    refine HC.out.mono ?_; rintro e w1 ⟨rfl, hb1⟩
    have y1 := hid hb1; clear hb1
    go_wp2_with fail
    go_ret3
    exact ⟨rfl, y1.out⟩

/-- The error of geom.ratio. -/
def gPE (s : ByteArray) : Int := if qE s ≠ 0 then qE s else if iM (cW s) = true ∨ 0 ≤ cmpN (cW s).data.toList (qD s).data.toList then 2 else if 1000 < (cW s).size ∨ 1000 < (qD s).size then 5 else 0

set_option maxRecDepth 100000 in
set_option maxHeartbeats 2000000 in
theorem g_ratio (w : World) (s : ByteArray) (hs : s.size ≤ 100000) (hL : Lay w) :
    Calls Tryz.prog 66 #[.string s] w fun e w' => e = .returned (.tuple #[.string (if gPE s = 0 then cW s else ⟨#[]⟩), .string (if gPE s = 0 then qD s else ⟨#[]⟩), .int .i64 (gPE s)]) ∧ Below w.heap.size w w' := by
  have HC := hid (q_Parts w s (by omega) hL)
  have z1 := cW_size s
  have z2 := qD_size s
  have HM := fun V => hid (n_Cmp V (cW s) (qD s) (by omega) (by omega))
  by_cases he : qE s = 0
  · have e1 : pW s = cW s := if_pos he
    have e2 : pD s = qD s := if_pos he
    rw [e1, e2, he] at HC
    have HE : gPE s = if iM (cW s) = true ∨ 0 ≤ cmpN (cW s).data.toList (qD s).data.toList then 2 else if 1000 < (cW s).size ∨ 1000 < (qD s).size then 5 else 0 := by
      unfold gPE
      rw [if_neg (fun h => h he)]
    rw [HE]
    clear HE e1 e2
    obtain ⟨D, hD⟩ : ∃ D, qD s = D := ⟨_, rfl⟩
    obtain ⟨W, hW⟩ : ∃ W, cW s = W := ⟨_, rfl⟩
    obtain ⟨hw0, hiM⟩ := qE_head he hW
    clear he
    obtain ⟨m, hm⟩ : ∃ m, iM W = m := ⟨_, rfl⟩
    obtain ⟨c, hc⟩ : ∃ c, cmpN W.data.toList D.data.toList = c := ⟨_, rfl⟩
    rw [hD, hW] at HC HM
    rw [hm] at hiM
    rw [hc] at HM
    rw [hD, hW, hm, hc]
    clear hD hW hm hc z1 z2
    rcases m with _ | _
    · by_cases hc2 : 0 ≤ c
      · have q0 : decide ((0 : Int) ≤ c) = true := by simp; omega
        simp only [hc2, or_true, if_true, show ¬ (2 : Int) = 0 by decide, if_false]
        clear hc2
        go_enter Tryz.func66, Tryz.ntmps66
        go_wp2_with fail
        refine HC.out.mono ?_; rintro e w1 ⟨rfl, hb1⟩
        have y1 := hid hb1; clear hb1
        go_wp2_with fail
        refine (HM _).out.mono ?_; rintro e w2 ⟨rfl, hb2⟩
        have y2 := hid (bnext y1.out hb2); clear hb2
        go_wp2_with fail
        go_ret3
        exact ⟨rfl, y2.out⟩
      · have q0 : decide ((0 : Int) ≤ c) = false := by simp; omega
        simp only [hc2, Bool.false_eq_true, or_self, if_false]
        clear hc2
        by_cases hl1 : 1000 < W.size
        · have q1 : decide ((1000 : Int) < (W.size : Int)) = true := by simp; omega
          simp only [hl1, true_or, if_true, show ¬ (5 : Int) = 0 by decide, if_false]
          clear hl1
          go_enter Tryz.func66, Tryz.ntmps66
          go_wp2_with fail
          refine HC.out.mono ?_; rintro e w1 ⟨rfl, hb1⟩
          have y1 := hid hb1; clear hb1
          go_wp2_with fail
          refine (HM _).out.mono ?_; rintro e w2 ⟨rfl, hb2⟩
          have y2 := hid (bnext y1.out hb2); clear hb2
          go_wp2_with fail
          go_ret3
          exact ⟨rfl, y2.out⟩
        · have q1 : decide ((1000 : Int) < (W.size : Int)) = false := by simp; omega
          by_cases hl2 : 1000 < D.size
          · have q2 : decide ((1000 : Int) < (D.size : Int)) = true := by simp; omega
            simp only [hl2, or_true, if_true, show ¬ (5 : Int) = 0 by decide, if_false]
            clear hl1 hl2
            go_enter Tryz.func66, Tryz.ntmps66
            go_wp2_with fail
            refine HC.out.mono ?_; rintro e w1 ⟨rfl, hb1⟩
            have y1 := hid hb1; clear hb1
            go_wp2_with fail
            refine (HM _).out.mono ?_; rintro e w2 ⟨rfl, hb2⟩
            have y2 := hid (bnext y1.out hb2); clear hb2
            go_wp2_with fail
            go_ret3
            exact ⟨rfl, y2.out⟩
          · have q2 : decide ((1000 : Int) < (D.size : Int)) = false := by simp; omega
            simp only [hl1, hl2, or_self, if_false, if_true]
            clear hl1 hl2
            go_enter Tryz.func66, Tryz.ntmps66
            go_wp2_with fail
            refine HC.out.mono ?_; rintro e w1 ⟨rfl, hb1⟩
            have y1 := hid hb1; clear hb1
            go_wp2_with fail
            refine (HM _).out.mono ?_; rintro e w2 ⟨rfl, hb2⟩
            have y2 := hid (bnext y1.out hb2); clear hb2
            go_wp2_with fail
            go_ret3
            exact ⟨rfl, y2.out⟩
    · simp only [true_or, if_true, show ¬ (2 : Int) = 0 by decide, if_false]
      go_enter Tryz.func66, Tryz.ntmps66
      go_wp2_with fail
      refine HC.out.mono ?_; rintro e w1 ⟨rfl, hb1⟩
      have y1 := hid hb1; clear hb1
      go_wp2_with fail
      go_ret3
      exact ⟨rfl, y1.out⟩
  · have e1 : pW s = ⟨#[]⟩ := if_neg he
    have e2 : pD s = ⟨#[]⟩ := if_neg he
    have e3 : gPE s = qE s := by unfold gPE; rw [if_pos he]
    rw [e1, e2] at HC
    rw [e3, if_neg he, if_neg he]
    obtain ⟨x, hx⟩ : ∃ x, qE s = x := ⟨_, rfl⟩
    rw [hx] at HC he ⊢
    have q0 : (x == 0) = false := by simpa using he
    have q1 : (x != 0) = true := by simpa using he
    clear e1 e2 e3 hx z1 z2 HM
    go_enter Tryz.func66, Tryz.ntmps66
    go_wp2_with fail
    refine HC.out.mono ?_; rintro e w1 ⟨rfl, hb1⟩
    have y1 := hid hb1; clear hb1
    go_wp2_with fail
    go_ret3
    exact ⟨rfl, y1.out⟩
end Go.Proofs.YtikfgddgfddbaaaGreatDoor

/- Plain words: the coin, step by step; the parts of a valid probability. -/
namespace Go.Proofs.YtikfgddgfddbaaaGreatDoor
open Go.RowKit
open Go.Lib (decDigits nDigits)

theorem toss_done {N D K T : Nat} {l : List UInt8} (h : sdB N D K T = true) : toss N D K T l = (true, sdV N D K T, 0) := by
  rw [toss.eq_def]; dsimp only; rw [if_pos h]
theorem toss_late {N D K T : Nat} (h : sdB N D K T = false) : toss N D K T [] = (false, 0, 0) := by
  rw [toss.eq_def]; dsimp only; rw [if_neg (by simp [h])]
theorem toss_next {N D K T : Nat} {b : UInt8} {r : List UInt8} (h : sdB N D K T = false) : toss N D K T (b :: r) = ((toss N D (2 * K + (if b = 49 then 1 else 0)) (2 * T) r).1, (toss N D (2 * K + (if b = 49 then 1 else 0)) (2 * T) r).2.1, (toss N D (2 * K + (if b = 49 then 1 else 0)) (2 * T) r).2.2 + 1) := by
  rw [toss.eq_def]; dsimp only; rw [if_neg (by simp [h])]

/-- The result behind u bits. -/
def tossAt (N D : Nat) (l : List UInt8) (K T u : Nat) : Bool × Nat × Nat := let x := toss N D K T (l.drop u); (x.1, x.2.1, x.2.2 + u)

theorem tossAt_done {N D K T u : Nat} {l : List UInt8} (h : sdB N D K T = true) : tossAt N D l K T u = (true, sdV N D K T, u) := by
  unfold tossAt; rw [toss_done h]; simp
theorem tossAt_late {N D K T : Nat} {l : List UInt8} (h : sdB N D K T = false) : tossAt N D l K T l.length = (false, 0, l.length) := by
  unfold tossAt; rw [List.drop_length, toss_late h]; simp
theorem tossAt_next {N D K T u : Nat} {l : List UInt8} (h : sdB N D K T = false) (hu : u < l.length) : tossAt N D l K T u = tossAt N D l (K + K + (if l[u] = 49 then 1 else 0)) (T + T) (u + 1) := by
  unfold tossAt
  rw [List.drop_eq_getElem_cons hu, toss_next h, Nat.two_mul, Nat.two_mul]
  simp only [Prod.mk.injEq, true_and]
  omega

/-- The cell of K among T = 2 ^ u. -/
structure Cell (K T u : Nat) : Prop where
  t : T = 2 ^ u
  k : K < T
theorem Cell.next {K T u x : Nat} (h : Cell K T u) (hx : x ≤ 1) : Cell (K + K + x) (T + T) (u + 1) := by
  refine ⟨?_, ?_⟩
  · rw [h.t, Nat.pow_succ]; omega
  · have := h.k; omega
theorem Cell.fits {N D K T u : Nat} (h : Cell K T u) (hu : u ≤ 256) (hN : N < 10 ^ eN) (hD : D < 10 ^ eN) : Fits N D K T := by
  have h1 : 2 ^ u ≤ 2 ^ 256 := Nat.pow_le_pow_right (by omega) hu
  have h2 : 2 ^ 256 < 10 ^ eK := by decide
  have ht := h.t
  have hk := h.k
  exact ⟨hN, hD, by omega, by omega⟩

theorem numB_of {s : ByteArray} (h : fB s = true) : s = numB (bN s) := by
  have h1 := dec_of_form (formB_iff.1 h)
  apply ByteArray.ext
  show s.data = (decDigits (dv s.data.toList)).toArray
  rw [← h1]

theorem bN_lt {s : ByteArray} (h : fB s = true) (hs : ¬ 1000 < s.size) : bN s < 10 ^ eN := by
  have h1 := dv_lt (fB_dig h)
  have e : s.data.toList.length = s.size := Array.length_toList
  exact Nat.lt_of_lt_of_le h1 (Nat.pow_le_pow_right (by omega) (by rw [e]; unfold eN; omega))

theorem iD_plain {s : ByteArray} (h : iM s = false) : iD s = s := by
  unfold iM at h
  unfold iD Lib.trimPrefix
  rw [h]
  rfl

/-- The parts of a valid text that is not negative. -/
theorem parts_ok {p : ByteArray} (he : qE p = 0) (hm : ¬ iM (cW p) = true) (hl : ¬ (1000 < (cW p).size ∨ 1000 < (qD p).size)) :
    cW p = numB (bN (cW p)) ∧ qD p = numB (bN (qD p)) ∧ bN (cW p) < 10 ^ eN ∧ bN (qD p) < 10 ^ eN ∧ errN (cW p).data.toList = 0 ∧ errN (qD p).data.toList = 0 := by
  have h1 := qE_zero he
  have hm' : iM (cW p) = false := by simpa using hm
  have hW : fB (cW p) = true := by
    have := iB_form (qB_whole h1.1)
    rwa [iD_plain hm'] at this
  have hD := qB_below h1.1
  have l1 : ¬ 1000 < (cW p).size := fun h => hl (.inl h)
  have l2 : ¬ 1000 < (qD p).size := fun h => hl (.inr h)
  have s1 : (cW p).data.toList.length = (cW p).size := Array.length_toList
  have s2 : (qD p).data.toList.length = (qD p).size := Array.length_toList
  exact ⟨numB_of hW, numB_of hD, bN_lt hW l1, bN_lt hD l2, errN_ok (formB_iff.1 hW) (by omega), errN_ok (formB_iff.1 hD) (by omega)⟩

theorem cPE_ok {p : ByteArray} (h : cPE p = 0) : cW p = numB (bN (cW p)) ∧ qD p = numB (bN (qD p)) ∧ bN (cW p) < 10 ^ eN ∧ bN (qD p) < 10 ^ eN ∧ bN (cW p) ≤ bN (qD p) := by
  unfold cPE at h
  split at h
  · rename_i he
    exact absurd h he
  · rename_i he
    have he' : qE p = 0 := Decidable.not_not.1 he
    split at h
    · cases h
    · rename_i h2
      split at h
      · cases h
      · rename_i h3
        obtain ⟨a, b, c, d, e1, e2⟩ := parts_ok he' (fun h => h2 (.inl h)) h3
        refine ⟨a, b, c, d, ?_⟩
        have h4 : ¬ 0 < cmpN (cW p).data.toList (qD p).data.toList := fun h => h2 (.inr h)
        rw [cmpN, if_pos ⟨e1, e2⟩, ordN] at h4
        show dv _ ≤ dv _
        split at h4
        · omega
        · split at h4
          · simp at h4
          · omega
end Go.Proofs.YtikfgddgfddbaaaGreatDoor
