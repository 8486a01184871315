/- Texts that the proof rests on, merged: Rp2, Ak, Rp3, Rp4, Rp5, Rp6, R1e, Rp7, Rp8, Nt, Rp9, Rp10, Bc1, PcB, R2da, Iz. -/
import Derived.Test.YtpheklgnmbpobaaGreatDoorKr8
import Derived.Deep.AppendLies
import Derived.WalkLawsBesides
import Derived.Sort.Walk0
namespace Go.Proofs.YtpheklgnmbpobaaGreatDoor
open Go.RowKit
set_option linter.unusedVariables false
set_option maxHeartbeats 4000000 in
theorem r1_PlusF (w : World) (v u : Value) (a b : Nat) (ha : IsN .i64 w v a) (hb : IsN .i64 w u b) (hla : (limbs a).length ≤ 1000000) (hlb : (limbs b).length ≤ 1000000) :
    Calls Tryz.prog 43 #[v, u] w fun e w' => RetFr w.heap.size .i64 (a + b) e w' ∧ Below w.heap.size w w' := by
  obtain ⟨i0, hi, hz0, hz1, hz2⟩ := info_parts info_int
  obtain ⟨a1, c1, rfl, h1, h2, h3⟩ := ha.openI
  obtain ⟨a2, c2, rfl, k1, k2, k3⟩ := hb.openI
  have H3 := hid h3; have K3 := hid k3; clear h3 k3 ha hb
  obtain ⟨n, ea⟩ : ∃ n, (limbs a).length = n := ⟨_, rfl⟩
  obtain ⟨m, eb⟩ : ∃ m, (limbs b).length = m := ⟨_, rfl⟩
  rw [ea] at h1 hla ⊢
  rw [eb] at k1 hlb ⊢
  have HA := hid ea; have HB := hid eb
  clear ea eb
  go_enter Tryz.func43, Tryz.ntmps43
  go_wp2_with fail
  go_loopw [5, 6, 7] (fun o cc i wr => ∃ (s : List Nat) (c : Nat) (C : Int), i = .int .i64 s.length ∧ cc = .int .i64 C ∧ C = (c : Int) ∧ c ≤ 1 ∧ s.length ≤ 1000001 ∧ (s.length ≤ n ∨ s.length ≤ m ∨ c = 0) ∧ Hid (PlusI a b s c) ∧ Hid (wr.ownsRow w.heap.size 3 1 o s.length (ints .i64 s)) ∧ Hid (Below w.heap.size w wr))
    (fun _ _ i _ => 1000002 - (intOf i).toNat)
  case atStart => exact ⟨[], 0, 0, rfl, rfl, rfl, by omega, by simp, .inl (by simp), PlusI.start a b, World.ownsRow_nil _ _ _ _, Below.refl _ _⟩
  case round =>
    obtain ⟨s, c, C, rfl, rfl, hC, hc1, hs1, hs2, hP, hO, hB⟩ := hrel
    obtain ⟨ao, co, rfl⟩ := owns_ex hO.out
    by_cases hA : s.length < n
    · obtain ⟨x, hx⟩ : ∃ x, (limbs a)[s.length]? = some x := ⟨_, List.getElem?_eq_getElem (by rw [HA.out]; exact hA)⟩
      obtain ⟨g, og, rfl, hg, hc⟩ := H3.out _ x hx
      have hc' := (hB.out.cell (p := ⟨g, og + s.length, none⟩) hg).trans hc
      have hxl := (sm_limbs a).get hx
      have HX := hid hx; clear hx hc
      by_cases hB' : s.length < m
      · obtain ⟨y, hy⟩ : ∃ y, (limbs b)[s.length]? = some y := ⟨_, List.getElem?_eq_getElem (by rw [HB.out]; exact hB')⟩
        obtain ⟨g', og', rfl, hg', hd⟩ := K3.out _ y hy
        have hd' := (hB.out.cell (p := ⟨g', og' + s.length, none⟩) hg').trans hd
        have hyl := (sm_limbs b).get hy
        have HY := hid hy; clear hy hd
        rcases (show c = 0 ∨ c = 1 by omega) with rfl | rfl
        · obtain rfl : C = 0 := by omega
          clear hC
          have HN := hid (hP.out.next (by rw [HA.out]; exact .inl hA))
          rw [getD_of HX.out, getD_of HY.out] at HN
          go_wp2_with (at_builtin; refine wpList_append_own _ rfl _ _ 69 rfl w.heap.size 3 i0 (.int .i64 0) 1 8 Tryz.underlying69 hi hz0 hz1 hz2 rfl (by decide) _ s.length _ rfl (hO.out.alloc _) ⟨wr.heap.size, 0, none⟩ 1 1 [.int .i64 ((↑x + ↑y : Int) % 1000000000)] rfl rfl (cell_one_new wr (.int .i64 ((↑x + ↑y : Int) % 1000000000)) 3) (by simp [Value.oneCell']) (by unfold maxLen; omega) (by omega) (by have := hB.out.size; simp; omega) ?_; intro v' w3 hown3 hgrow3 _; have HO3 := hid hown3; have HG3 := hid hgrow3; clear hown3 hgrow3)
          have hz : ((↑x + ↑y : Int) % 1000000000) = (((x + 0 + y) % 1000000000 : Nat) : Int) := by omega
          rw [hz] at HO3
          obtain ⟨n1, n2⟩ := own_next hO.out hB.out HO3.out HG3.out
          have N1 := hid n1; have N2 := hid n2; clear n1 n2 hz HO3 HG3
          obtain ⟨a3, k3, rfl⟩ := owns_ex N1.out
          go_wp2_with fail
          go_roundw
          case rel => exact ⟨s ++ [(x + 0 + y) % 1000000000], (x + 0 + y) / 1000000000, _, by simp, rfl, by omega, HN.out.c1, by simp <;> omega, by simp <;> omega, HN, N1, N2⟩
          case measure => simp [intOf] <;> omega
        · obtain rfl : C = 1 := by omega
          clear hC
          have HN := hid (hP.out.next (by rw [HA.out]; exact .inl hA))
          rw [getD_of HX.out, getD_of HY.out] at HN
          go_wp2_with (at_builtin; refine wpList_append_own _ rfl _ _ 69 rfl w.heap.size 3 i0 (.int .i64 0) 1 8 Tryz.underlying69 hi hz0 hz1 hz2 rfl (by decide) _ s.length _ rfl (hO.out.alloc _) ⟨wr.heap.size, 0, none⟩ 1 1 [.int .i64 ((1 + ↑x + ↑y : Int) % 1000000000)] rfl rfl (cell_one_new wr (.int .i64 ((1 + ↑x + ↑y : Int) % 1000000000)) 3) (by simp [Value.oneCell']) (by unfold maxLen; omega) (by omega) (by have := hB.out.size; simp; omega) ?_; intro v' w3 hown3 hgrow3 _; have HO3 := hid hown3; have HG3 := hid hgrow3; clear hown3 hgrow3)
          have hz : ((1 + ↑x + ↑y : Int) % 1000000000) = (((x + 1 + y) % 1000000000 : Nat) : Int) := by omega
          rw [hz] at HO3
          obtain ⟨n1, n2⟩ := own_next hO.out hB.out HO3.out HG3.out
          have N1 := hid n1; have N2 := hid n2; clear n1 n2 hz HO3 HG3
          obtain ⟨a3, k3, rfl⟩ := owns_ex N1.out
          go_wp2_with fail
          go_roundw
          case rel => exact ⟨s ++ [(x + 1 + y) % 1000000000], (x + 1 + y) / 1000000000, _, by simp, rfl, by omega, HN.out.c1, by simp <;> omega, by simp <;> omega, HN, N1, N2⟩
          case measure => simp [intOf] <;> omega
      · skip
        rcases (show c = 0 ∨ c = 1 by omega) with rfl | rfl
        · obtain rfl : C = 0 := by omega
          clear hC
          have HN := hid (hP.out.next (by rw [HA.out]; exact .inl hA))
          rw [getD_of HX.out, getD_none (by rw [HB.out]; omega)] at HN
          go_wp2_with (at_builtin; refine wpList_append_own _ rfl _ _ 69 rfl w.heap.size 3 i0 (.int .i64 0) 1 8 Tryz.underlying69 hi hz0 hz1 hz2 rfl (by decide) _ s.length _ rfl (hO.out.alloc _) ⟨wr.heap.size, 0, none⟩ 1 1 [.int .i64 ((↑x : Int) % 1000000000)] rfl rfl (cell_one_new wr (.int .i64 ((↑x : Int) % 1000000000)) 3) (by simp [Value.oneCell']) (by unfold maxLen; omega) (by omega) (by have := hB.out.size; simp; omega) ?_; intro v' w3 hown3 hgrow3 _; have HO3 := hid hown3; have HG3 := hid hgrow3; clear hown3 hgrow3)
          have hz : ((↑x : Int) % 1000000000) = (((x + 0 + 0) % 1000000000 : Nat) : Int) := by omega
          rw [hz] at HO3
          obtain ⟨n1, n2⟩ := own_next hO.out hB.out HO3.out HG3.out
          have N1 := hid n1; have N2 := hid n2; clear n1 n2 hz HO3 HG3
          obtain ⟨a3, k3, rfl⟩ := owns_ex N1.out
          go_wp2_with fail
          go_roundw
          case rel => exact ⟨s ++ [(x + 0 + 0) % 1000000000], (x + 0 + 0) / 1000000000, _, by simp, rfl, by omega, HN.out.c1, by simp <;> omega, by simp <;> omega, HN, N1, N2⟩
          case measure => simp [intOf] <;> omega
        · obtain rfl : C = 1 := by omega
          clear hC
          have HN := hid (hP.out.next (by rw [HA.out]; exact .inl hA))
          rw [getD_of HX.out, getD_none (by rw [HB.out]; omega)] at HN
          go_wp2_with (at_builtin; refine wpList_append_own _ rfl _ _ 69 rfl w.heap.size 3 i0 (.int .i64 0) 1 8 Tryz.underlying69 hi hz0 hz1 hz2 rfl (by decide) _ s.length _ rfl (hO.out.alloc _) ⟨wr.heap.size, 0, none⟩ 1 1 [.int .i64 ((1 + ↑x : Int) % 1000000000)] rfl rfl (cell_one_new wr (.int .i64 ((1 + ↑x : Int) % 1000000000)) 3) (by simp [Value.oneCell']) (by unfold maxLen; omega) (by omega) (by have := hB.out.size; simp; omega) ?_; intro v' w3 hown3 hgrow3 _; have HO3 := hid hown3; have HG3 := hid hgrow3; clear hown3 hgrow3)
          have hz : ((1 + ↑x : Int) % 1000000000) = (((x + 1 + 0) % 1000000000 : Nat) : Int) := by omega
          rw [hz] at HO3
          obtain ⟨n1, n2⟩ := own_next hO.out hB.out HO3.out HG3.out
          have N1 := hid n1; have N2 := hid n2; clear n1 n2 hz HO3 HG3
          obtain ⟨a3, k3, rfl⟩ := owns_ex N1.out
          go_wp2_with fail
          go_roundw
          case rel => exact ⟨s ++ [(x + 1 + 0) % 1000000000], (x + 1 + 0) / 1000000000, _, by simp, rfl, by omega, HN.out.c1, by simp <;> omega, by simp <;> omega, HN, N1, N2⟩
          case measure => simp [intOf] <;> omega
    · skip
      by_cases hB' : s.length < m
      · obtain ⟨y, hy⟩ : ∃ y, (limbs b)[s.length]? = some y := ⟨_, List.getElem?_eq_getElem (by rw [HB.out]; exact hB')⟩
        obtain ⟨g', og', rfl, hg', hd⟩ := K3.out _ y hy
        have hd' := (hB.out.cell (p := ⟨g', og' + s.length, none⟩) hg').trans hd
        have hyl := (sm_limbs b).get hy
        have HY := hid hy; clear hy hd
        rcases (show c = 0 ∨ c = 1 by omega) with rfl | rfl
        · obtain rfl : C = 0 := by omega
          clear hC
          have HN := hid (hP.out.next (by rw [HB.out]; exact .inr (.inl hB')))
          rw [getD_none (by rw [HA.out]; omega), getD_of HY.out] at HN
          go_wp2_with (at_builtin; refine wpList_append_own _ rfl _ _ 69 rfl w.heap.size 3 i0 (.int .i64 0) 1 8 Tryz.underlying69 hi hz0 hz1 hz2 rfl (by decide) _ s.length _ rfl (hO.out.alloc _) ⟨wr.heap.size, 0, none⟩ 1 1 [.int .i64 ((↑y : Int) % 1000000000)] rfl rfl (cell_one_new wr (.int .i64 ((↑y : Int) % 1000000000)) 3) (by simp [Value.oneCell']) (by unfold maxLen; omega) (by omega) (by have := hB.out.size; simp; omega) ?_; intro v' w3 hown3 hgrow3 _; have HO3 := hid hown3; have HG3 := hid hgrow3; clear hown3 hgrow3)
          have hz : ((↑y : Int) % 1000000000) = (((0 + 0 + y) % 1000000000 : Nat) : Int) := by omega
          rw [hz] at HO3
          obtain ⟨n1, n2⟩ := own_next hO.out hB.out HO3.out HG3.out
          have N1 := hid n1; have N2 := hid n2; clear n1 n2 hz HO3 HG3
          obtain ⟨a3, k3, rfl⟩ := owns_ex N1.out
          go_wp2_with fail
          go_roundw
          case rel => exact ⟨s ++ [(0 + 0 + y) % 1000000000], (0 + 0 + y) / 1000000000, _, by simp, rfl, by omega, HN.out.c1, by simp <;> omega, by simp <;> omega, HN, N1, N2⟩
          case measure => simp [intOf] <;> omega
        · obtain rfl : C = 1 := by omega
          clear hC
          have HN := hid (hP.out.next (by rw [HB.out]; exact .inr (.inl hB')))
          rw [getD_none (by rw [HA.out]; omega), getD_of HY.out] at HN
          go_wp2_with (at_builtin; refine wpList_append_own _ rfl _ _ 69 rfl w.heap.size 3 i0 (.int .i64 0) 1 8 Tryz.underlying69 hi hz0 hz1 hz2 rfl (by decide) _ s.length _ rfl (hO.out.alloc _) ⟨wr.heap.size, 0, none⟩ 1 1 [.int .i64 ((1 + ↑y : Int) % 1000000000)] rfl rfl (cell_one_new wr (.int .i64 ((1 + ↑y : Int) % 1000000000)) 3) (by simp [Value.oneCell']) (by unfold maxLen; omega) (by omega) (by have := hB.out.size; simp; omega) ?_; intro v' w3 hown3 hgrow3 _; have HO3 := hid hown3; have HG3 := hid hgrow3; clear hown3 hgrow3)
          have hz : ((1 + ↑y : Int) % 1000000000) = (((0 + 1 + y) % 1000000000 : Nat) : Int) := by omega
          rw [hz] at HO3
          obtain ⟨n1, n2⟩ := own_next hO.out hB.out HO3.out HG3.out
          have N1 := hid n1; have N2 := hid n2; clear n1 n2 hz HO3 HG3
          obtain ⟨a3, k3, rfl⟩ := owns_ex N1.out
          go_wp2_with fail
          go_roundw
          case rel => exact ⟨s ++ [(0 + 1 + y) % 1000000000], (0 + 1 + y) / 1000000000, _, by simp, rfl, by omega, HN.out.c1, by simp <;> omega, by simp <;> omega, HN, N1, N2⟩
          case measure => simp [intOf] <;> omega
      · skip
        rcases (show c = 0 ∨ c = 1 by omega) with rfl | rfl
        · obtain rfl : C = 0 := by omega
          clear hC
          have hs := hid (hP.out.done (by rw [HA.out]; exact hA) (by rw [HB.out]; exact hB') rfl)
          go_wp2_with fail
          go_ret
          exact ⟨⟨_, rfl, owns_isN hO.out hs.out, fun g hg => (hO.out.lt g hg).1⟩, hB.out⟩
        · obtain rfl : C = 1 := by omega
          clear hC
          have HN := hid (hP.out.next (by exact .inr (.inr (by omega))))
          rw [getD_none (by rw [HA.out]; omega), getD_none (by rw [HB.out]; omega)] at HN
          go_wp2_with (at_builtin; refine wpList_append_own _ rfl _ _ 69 rfl w.heap.size 3 i0 (.int .i64 0) 1 8 Tryz.underlying69 hi hz0 hz1 hz2 rfl (by decide) _ s.length _ rfl (hO.out.alloc _) ⟨wr.heap.size, 0, none⟩ 1 1 [.int .i64 (1)] rfl rfl (cell_one_new wr (.int .i64 (1)) 3) (by simp [Value.oneCell']) (by unfold maxLen; omega) (by omega) (by have := hB.out.size; simp; omega) ?_; intro v' w3 hown3 hgrow3 _; have HO3 := hid hown3; have HG3 := hid hgrow3; clear hown3 hgrow3)
          have hz : (1) = (((0 + 1 + 0) % 1000000000 : Nat) : Int) := by omega
          rw [hz] at HO3
          obtain ⟨n1, n2⟩ := own_next hO.out hB.out HO3.out HG3.out
          have N1 := hid n1; have N2 := hid n2; clear n1 n2 hz HO3 HG3
          obtain ⟨a3, k3, rfl⟩ := owns_ex N1.out
          go_wp2_with fail
          go_roundw
          case rel => exact ⟨s ++ [(0 + 1 + 0) % 1000000000], (0 + 1 + 0) / 1000000000, _, by simp, rfl, by omega, HN.out.c1, by simp <;> omega, by simp <;> omega, HN, N1, N2⟩
          case measure => simp [intOf] <;> omega
end Go.Proofs.YtpheklgnmbpobaaGreatDoor
namespace Go.Proofs.YtpheklgnmbpobaaGreatDoor
open Go.RowKit
set_option linter.unusedVariables false
theorem run_append_keep {P : Program} (w : World) (base : Nat) (t ty e : TypeId) (i : TypeInfo) (z : Value) (size bytes : Nat) (ht : P.underlying t = some (.slice e)) (hi : P.info? e = some i) (hz : i.zero = some z)
    (hsize : i.size = size) (hby : i.bytes = bytes) (hzs : z.cells.size = size) (hsz : 0 < size) (v : Value) (n : Nat) (xs : List Value) (hown : w.ownsRow base e size v n xs)
    (a : Addr) (m c : Nat) (news : List Value) (hl : news.length = m * size) (hnews : ∀ j u, news[j]? = some u → w.cell? (a.add j) = some u) (h1 : ∀ u ∈ news, u.oneCell' = true)
    (h63 : n + m ≤ maxLen) (hbytes : (n + m) * bytes ≤ 140737488355328) (hbase : base ≤ w.heap.size) :
    ∃ v' w', (Builtin.append_ #[t, t] ty #[v, .slice (some a) m c]).run P w = .ok v' w' ∧ w'.ownsRow base e size v' (n + m) (xs ++ news) ∧ w.grownBy w' v.ownBlock ∧
      (v'.ownBlock = v.ownBlock ∨ v'.ownBlock = some w.heap.size) ∧ ∀ g c', v = .slice (some ⟨g, 0, none⟩) n c' → ∀ j, j < n * size → w'.cell? ⟨g, j, none⟩ = w.cell? ⟨g, j, none⟩ := by
  obtain ⟨v', w', hr, k1, k2, -, k4⟩ := run_append_own_at (P := P) w base t ty e i z size bytes ht hi hz hsize hby hzs hsz v n xs hown a m c news hl hnews h1 h63 hbytes hbase
  refine ⟨v', w', hr, k1, k2, k4, ?_⟩
  rintro g c' rfl j hj
  subst hsize
  subst hby
  rcases hown.2 with ⟨q, _⟩ | ⟨g', cap, cur, q, hbg, hg, hnc, hcm, hcs, htake⟩
  · cases q
  · simp only [Value.slice.injEq, Option.some.injEq, Addr.mk.injEq] at q
    obtain ⟨⟨rfl, -, -⟩, -, rfl⟩ := q
    have hsmall : n + m ≤ 9223372036854775807 := by simp only [maxLen] at h63; omega
    by_cases hroom : n + m ≤ c'
    · have hfit : n * i.size + news.length ≤ cur.size := by rw [hl, hcs, ← Nat.add_mul]; exact Nat.mul_le_mul_right _ hroom
      have hr2 := run_append_room (P := P) w t ty e i ht hi g n c' cur hg a m c news hl hnews h1 hroom hfit
      rw [hr] at hr2
      injection hr2 with q1 q2
      rw [q2, cell_of_row _ g j _ e (0, 0) (setRow_heap w g cur _ e _ hg), cell_of_row w g j cur e (0, 0) hg]
      have hlt : j < (cur.toList.take (n * i.size)).length := by rw [List.length_take, Array.length_toList]; omega
      rw [List.getElem?_toArray, List.append_assoc, List.getElem?_append_left hlt, List.getElem?_take, if_pos hj, Array.getElem?_toList]
    · have holds : ∀ j u, xs[j]? = some u → w.cell? ((⟨g, 0, none⟩ : Addr).add j) = some u := hown.cells (g := g) rfl
      have hr2 := run_append_grow (P := P) w t ty e i z ht hi hz ⟨g, 0, none⟩ n c' xs hown.1 holds a m c news hl hnews (by omega) (by omega) (growslice_fits (by omega) hbytes)
      rw [hr] at hr2
      injection hr2 with q1 q2
      rw [q2]
      exact World.cell?_of_block (heap_alloc_old w.drew _ (Array.getElem?_eq_some_iff.1 hg).1)
theorem step_append_keep {P : Program} (w : World) {ops : Array Oper} {o : Oper} {a : Act} {K : Act → World → Prop} {Q : Exit → Act → World → Prop} {E : Prop} (hgd : o.guard = none) (s x : Operand) (t : TypeId)
    (ho : o.op = .call { callee := .builtin .append, args := #[s, x], argTypes := #[t, t] })
    (base : Nat) (e : TypeId) (i : TypeInfo) (z : Value) (size bytes : Nat) (ht : P.underlying t = some (.slice e)) (hi : P.info? e = some i) (hz : i.zero = some z)
    (hsize : i.size = size) (hby : i.bytes = bytes) (hzs : z.cells.size = size) (hsz : 0 < size)
    (v : Value) (n : Nat) (xs : List Value) (hs : a.eval s = v) (hown : w.ownsRow base e size v n xs)
    (ad : Addr) (m c : Nat) (news : List Value) (hx : a.eval x = .slice (some ad) m c) (hl : news.length = m * size) (hnews : ∀ j u, news[j]? = some u → w.cell? (ad.add j) = some u) (h1 : ∀ u ∈ news, u.oneCell' = true)
    (h63 : n + m ≤ maxLen) (hbytes : (n + m) * bytes ≤ 140737488355328) (hbase : base ≤ w.heap.size)
    (h : ∀ v' w', w'.ownsRow base e size v' (n + m) (xs ++ news) → w.grownBy w' v.ownBlock → (v'.ownBlock = v.ownBlock ∨ v'.ownBlock = some w.heap.size) → (∀ g c', v = .slice (some ⟨g, 0, none⟩) n c' → ∀ j, j < n * size → w'.cell? ⟨g, j, none⟩ = w.cell? ⟨g, j, none⟩) → K (a.put o.dst v') w') :
    if Region.wanted o (yielded ops a.tmps) = true then Oper.wp P o a w K Q else E := by
  have hw : Region.wanted o (yielded ops a.tmps) = true := by simp [Region.wanted, hgd]
  rw [if_pos hw]
  obtain ⟨v', w', hr, h2, h3, h4, h5⟩ := run_append_keep (P := P) w base t o.type e i z size bytes ht hi hz hsize hby hzs hsz v n xs hown ad m c news hl hnews h1 h63 hbytes hbase
  unfold Oper.wp execOp
  simp only [ho, resolve, invoke, builtin, Sem.run_bind, Sem.run_pure, Result.andThen_ok, List.map_toArray, List.map_cons, List.map_nil, hs, hx, hr]
  exact h v' w' h2 h3 h4 h5
end Go.Proofs.YtpheklgnmbpobaaGreatDoor
namespace Go.Proofs.YtpheklgnmbpobaaGreatDoor
open Go.RowKit Go.Shelf
open Go.Lib (decDigits nDigits)
set_option linter.unusedVariables false
set_option linter.unusedSimpArgs false
def Ap (x o : Value) (n : Nat) : Prop := n = 0 ∨ ∀ g, x.ownBlock = some g → o.ownBlock ≠ some g
theorem isN_lt {k : IntKind} {w : World} {v : Value} {n g : Nat} (h : IsN k w v n) (h0 : n ≠ 0) (hg : v.ownBlock = some g) : g < w.heap.size := by
  obtain ⟨a, c, rfl, h1, h2, h3⟩ := h.openI
  have hl : 0 < (limbs n).length := by
    rw [limbs_pos (by omega)]; simp
  obtain ⟨g', o, rfl, hg', hc⟩ := h3 0 _ (List.getElem?_eq_getElem hl)
  simp only [Value.ownBlock, Option.some.injEq] at hg
  omega
theorem isN_grown {k : IntKind} {w w' : World} {row : Option Nat} {v : Value} {n : Nat} (h : IsN k w v n) (hg : w.grownBy w' row) (hne : n = 0 ∨ ∀ g, v.ownBlock = some g → row ≠ some g) : IsN k w' v n := by
  obtain ⟨a, c, rfl, h1, h2, h3⟩ := h.ex
  rw [ints_length] at *
  refine ⟨a, c, by rw [ints_length], by rw [ints_length]; exact h1, h2, fun i x hx => ?_⟩
  obtain ⟨g, o, rfl, hg', hc⟩ := h3 i x hx
  rcases hne with rfl | hne
  · rw [limbs_zero] at hx; simp [ints] at hx
  · exact ⟨g, o, rfl, Nat.lt_of_lt_of_le hg' hg.size, hg.cell hc (fun e => hne g rfl e.symm)⟩
def NRow (w : World) (v : Value) (m : Nat) (f : Nat → Nat) : Prop := ∃ vs : List Value, vs.length = m ∧ Row w v vs ∧ ∀ j x, vs[j]? = some x → IsN .i64 w x (f j)
theorem NRow.call {w w' : World} {v : Value} {m : Nat} {f : Nat → Nat} (h : NRow w v m f) (hb : Below w.heap.size w w') : NRow w' v m f := by
  obtain ⟨vs, h1, h2, h3⟩ := h
  exact ⟨vs, h1, h2.call hb, fun j x hx => (h3 j x hx).call hb⟩
theorem NRow.open {w : World} {v : Value} {m : Nat} {f : Nat → Nat} (h : NRow w v m f) : ∃ a c, v = .slice a m c ∧ m ≤ c ∧ c ≤ 9223372036854775807 ∧ ∀ i, i < m → ∃ g o x, a = some ⟨g, o, none⟩ ∧ g < w.heap.size ∧ w.cell? ⟨g, o + i, none⟩ = some x ∧ IsN .i64 w x (f i) := by
  obtain ⟨vs, rfl, h2, h3⟩ := h
  obtain ⟨a, c, rfl, k1, k2, k3⟩ := h2.ex
  refine ⟨a, c, rfl, k1, by unfold maxLen at k2; omega, fun i hi => ?_⟩
  obtain ⟨x, hx⟩ : ∃ x, vs[i]? = some x := ⟨_, List.getElem?_eq_getElem hi⟩
  obtain ⟨g, o, e, q1, q2⟩ := k3 i x hx
  exact ⟨g, o, x, e, q1, q2, h3 i x hx⟩
def NOwn (B : Nat) (w : World) (v : Value) (m : Nat) (f : Nat → Nat) : Prop := ∃ vs : List Value, w.ownsRow B 69 1 v m vs ∧ ∀ j x, vs[j]? = some x → IsN .i64 w x (f j) ∧ Ap x v (f j)
theorem NOwn.row {B : Nat} {w : World} {v : Value} {m : Nat} {f : Nat → Nat} (h : NOwn B w v m f) : NRow w v m f := by
  obtain ⟨vs, h1, h2⟩ := h
  exact ⟨vs, by have := h1.1; omega, Row.of_owns h1, fun j x hx => (h2 j x hx).1⟩
theorem NOwn.call {B : Nat} {w w' : World} {v : Value} {m : Nat} {f : Nat → Nat} (h : NOwn B w v m f) (hb : Below w.heap.size w w') : NOwn B w' v m f := by
  obtain ⟨vs, h1, h2⟩ := h
  exact ⟨vs, h1.kept (below_grown hb none) (by cases hv : v.ownBlock <;> simp), fun j x hx => ⟨(h2 j x hx).1.call hb, (h2 j x hx).2⟩⟩
theorem NOwn.nil (B : Nat) (w : World) (f : Nat → Nat) : NOwn B w (.slice none 0 0) 0 f := ⟨[], World.ownsRow_nil _ _ _ _, fun j x hx => by simp at hx⟩
theorem NOwn.next {B B' : Nat} {w w1 w3 : World} {v v3 x : Value} {m : Nat} {f : Nat → Nat} {o : Obj} {vs : List Value} (k1 : w.ownsRow B 69 1 v m vs) (k2 : ∀ j x, vs[j]? = some x → IsN .i64 w x (f j) ∧ Ap x v (f j)) (hb : Below w.heap.size w w1) (hx : IsN .i64 w1 x (f m)) (hB' : w.heap.size ≤ B') (hf : ∀ g, x.ownBlock = some g → B' ≤ g)
    (h3 : w3.ownsRow B 69 1 v3 (m + 1) (vs ++ [x])) (hg : (w1.alloc o).grownBy w3 v.ownBlock) (hat : v3.ownBlock = v.ownBlock ∨ v3.ownBlock = some (w1.alloc o).heap.size) : NOwn B w3 v3 (m + 1) f := by
  have c1 : (w1.alloc o).ownsRow B 69 1 v m vs := (k1.kept (below_grown hb none) (by cases hv : v.ownBlock <;> simp)).alloc o
  have hs : w1.heap.size ≤ (w1.alloc o).heap.size := by simp
  have hal : Below w1.heap.size w1 (w1.alloc o) := (Below.refl _ _).alloc (Nat.le_refl _) o
  refine ⟨vs ++ [x], h3, fun j y hy => ?_⟩
  have hl : vs.length = m := by have := k1.1; omega
  have key : IsN .i64 w1 y (f j) ∧ Ap y v (f j) := by
    by_cases hj : j < vs.length
    · rw [List.getElem?_append_left hj] at hy
      exact ⟨(k2 j y hy).1.call hb, (k2 j y hy).2⟩
    · rw [List.getElem?_append_right (by omega)] at hy
      have hj' : j - vs.length = 0 := by
        rcases Nat.eq_zero_or_pos (j - vs.length) with h | h
        · exact h
        · rw [List.getElem?_eq_none (by simp; omega)] at hy; cases hy
      rw [hj'] at hy
      obtain rfl : j = m := by omega
      simp at hy
      subst hy
      refine ⟨hx, .inr fun g hg' e => ?_⟩
      have := hf g hg'
      have := (k1.lt g e).2
      omega
  obtain ⟨q1, q2⟩ := key
  have q3 : IsN .i64 (w1.alloc o) y (f j) := q1.call hal
  refine ⟨isN_grown q3 hg q2, ?_⟩
  by_cases h0 : f j = 0
  · exact .inl h0
  · refine .inr fun g hg' => ?_
    rcases q2 with e | q2
    · exact absurd e h0
    · rcases hat with e | e
      · rw [e]; exact q2 g hg'
      · rw [e]
        intro e'
        injection e' with e'
        have := isN_lt q3 h0 hg'
        omega
theorem info_tl : (Tryz.prog.info? 69).map (fun i => (i.zero, i.size, i.bytes)) = some (some (.slice none 0 0), 1, 24) := by kernel_rfl
set_option maxRecDepth 100000 in
set_option maxHeartbeats 2000000 in
theorem r5_Sums (w : World) (v : Value) (ws : List Nat) (hws : WsOk ws) (hv : Row w v (strs (ws.map numB))) :
    Calls Tryz.prog 64 #[v] w fun e w' => (∃ u, e = .returned u ∧ NRow w' u (ws.length + 1) (pre ws)) ∧ Below w.heap.size w w' := by
  obtain ⟨i0, hi, hz0, hz1, hz2⟩ := info_parts info_tl
  have HV := hid hv; have HWS := hid hws
  obtain ⟨a, c, rfl, q1, q2, -⟩ := hv.openS
  obtain ⟨N, hN⟩ : ∃ N, (ws.map numB).length = N := ⟨_, rfl⟩
  have HN := hid (show ws.length = N from by rw [← hN]; simp)
  have hN64 : N ≤ 64 := by rw [← HN.out]; exact hws.len
  rw [hN] at HV q1
  rw [hN, HN.out]
  clear hv hws hN
  have hR0 := hid (r1_Read_num w 0 (Nat.le_trans (nDigits_le (k := 1) (by omega) (by omega)) (by omega)))
  rw [numB_zero] at hR0
  go_enter Tryz.func64, Tryz.ntmps64
  go_wp2_with fail
  refine hR0.out.mono ?_; rintro e w1 ⟨⟨v1, rfl, hv1⟩, hb1⟩
  obtain ⟨a1, c1, rfl, -, -, -⟩ := hv1.openI
  rw [show (limbs 0).length = 0 from by rw [limbs_zero]; rfl] at hv1 ⊢
  have V1 := hid hv1; have B1 := hid hb1
  clear hv1 hb1 hR0
  go_wp2_with fail
  go_loopw [3, 4] (fun o ii wr => ∃ i : Nat, ii = .int .i64 i ∧ i ≤ N ∧ Hid (NOwn w.heap.size wr o (i + 1) (pre ws)) ∧ Hid (Below w.heap.size w wr)) (fun o ii wr => N - (intOf ii).toNat)
  case atStart =>
    refine ⟨0, rfl, Nat.zero_le _, ?_, ?_⟩
    · have hx : ∀ j x, [Value.slice a1 0 c1][j]? = some x → IsN .i64 w1 x (pre ws j) ∧ Ap x (.slice (some ⟨w1.heap.size, 0, none⟩) 1 1) (pre ws j) := fun j x hx => by
        match j, hx with
        | 0, hx => simp at hx; subst hx; exact ⟨by rw [pre_zero]; exact V1.out, .inl (pre_zero ws)⟩
      refine ⟨_, ?_, fun j x h => ⟨((hx j x h).1).call ((Below.refl _ _).alloc (Nat.le_refl _) _), (hx j x h).2⟩⟩
      exact ⟨rfl, .inr ⟨w1.heap.size, 1, #[_], rfl, B1.out.size, heap_alloc_new w1 _, Nat.le_refl _, by unfold maxLen; omega, rfl, rfl⟩⟩
    · exact B1.out.alloc B1.out.size _
  case round =>
    obtain ⟨i, rfl, hi', hO, hB⟩ := hrel
    obtain ⟨vs, HO0, HO1⟩ := id hO.out
    obtain ⟨G, cap, rfl, hGB, hGlt⟩ := HO0.form (Nat.succ_pos i)
    by_cases hlt : i < N
    · obtain ⟨x, hx⟩ : ∃ x, ws[i]? = some x := ⟨_, List.getElem?_eq_getElem (by rw [HN.out]; exact hlt)⟩
      obtain ⟨g, og, rfl, hg, hc⟩ := HV.out.at (strs_get (show (ws.map numB)[i]? = some (numB x) by rw [List.getElem?_map, hx]; rfl))
      obtain ⟨y, hy⟩ : ∃ y, vs[i]? = some y := ⟨_, List.getElem?_eq_getElem (by have := HO0.1; omega)⟩
      have hcy := HO0.cells (g := G) rfl i y hy
      rw [Addr.add_lit, Nat.zero_add] at hcy
      have HX := hid hx; have HY := hid (HO1 i y hy).1; have HO9 := hid HO1; have HOO := hid HO0
      have hR := fun W => hid (r1_Read_num W x (by have := HWS.out.dig x (List.mem_of_getElem? HX.out); omega))
      have b1 : (0 : Int) ≤ (i : Int) := by omega
      have b2 : (i : Int) < (N : Int) := by omega
      have b3 : (i : Int) < ((i + 1 : Nat) : Int) := by omega
      have b4 : (i : Int) < (i : Int) + 1 := by omega
      have wi : IntKind.i64.wrap ((i : Int) + 1) = ((i + 1 : Nat) : Int) := by rw [IntWalk.i64_in _ ⟨by omega, by omega⟩]; omega
      have LP : Hid ((limbs (pre ws i)).length ≤ 1000000) := num_limbs (by have := HWS.out.pre i; omega)
      have LX : Hid ((limbs x).length ≤ 1000000) := num_limbs (by have := HWS.out.dig x (List.mem_of_getElem? HX.out); omega)
      obtain ⟨X0, hX0⟩ : ∃ s, numB x = s := ⟨_, rfl⟩
      rw [hX0] at hR hc
      have KK : Hid (∀ w', Below wr.heap.size wr w' → w'.cell? ⟨G, i, none⟩ = some y ∧ w'.cell? ⟨g, og + i, none⟩ = some (.string X0)) := fun w' hb =>
        ⟨(hb.cell (p := ⟨G, i, none⟩) hGlt).trans hcy, (hb.cell (p := ⟨g, og + i, none⟩) (by have := hB.out.size; show g < _; omega)).trans ((hB.out.cell (p := ⟨g, og + i, none⟩) hg).trans hc)⟩
      have HG := hid (show g ≠ G from by omega)
      clear hx hy hc hcy HO0 HO1 hX0
      go_wp2_with fail
      go_region_held3 (fun w' => w'.cell? ⟨G, i, none⟩ = some y ∧ w'.cell? ⟨g, og + i, none⟩ = some (.string X0))
        (first
          | exact KK.out _ (Below.refl _ _).drew
          | exact KEEP.out
          | exact KK.out _ (B4.out.alloc B4.out.size _)
          | exact KK.out _ B4.out
          | exact KK.out _ B2.out)
        (first
          | (go_at_call 44; refine (hR _).out.mono ?_; rintro e w2 ⟨⟨v2, rfl, hv2⟩, hb2⟩; have V2 := hid hv2; have B2 := hid (show Below wr.heap.size wr w2 from (Below.refl _ _).drew.trans hb2); clear hv2 hb2)
          | (go_at_call 43; refine (r1_PlusF _ _ _ _ _ (HY.out.call B2.out) V2.out LP.out LX.out).mono ?_; rintro e w4 ⟨⟨v4, rfl, hv4, hf4⟩, hb4⟩; obtain ⟨a4, c4, rfl, -, -, -⟩ := hv4.openI; have V4 := hid hv4; have B4 := hid (bnext B2.out hb4); have F4 := hid hf4; clear hv4 hb4 hf4)
          | (refine step_append_keep _ rfl _ _ _ rfl w.heap.size 69 i0 (.slice none 0 0) 1 24 Tryz.underlying92 hi hz0 hz1 hz2 rfl (by decide) _ (i + 1) vs rfl ((HOO.out.kept (below_grown B4.out none) (by simp [Value.ownBlock])).alloc _) ⟨w4.heap.size, 0, none⟩ 1 1 [.slice a4 (limbs (pre ws i + x)).length c4] rfl rfl (cell_one_new w4 (.slice a4 (limbs (pre ws i + x)).length c4) 69) (by simp [Value.oneCell']) (by unfold maxLen; omega) (by omega) (by have := hB.out.size; have := B4.out.size; simp; omega) ?_; intro v' w5 hown hgrow hat hkeep; have HO5 := hid hown; have HG5 := hid hgrow; have HA5 := hid hat; have KEEP := hid (show w5.cell? ⟨G, i, none⟩ = some y ∧ w5.cell? ⟨g, og + i, none⟩ = some (.string X0) from ⟨by rw [hkeep G cap rfl i (by omega)]; exact (KK.out _ (B4.out.alloc B4.out.size _)).1, hgrow.cell (KK.out _ (B4.out.alloc B4.out.size _)).2 (by simp only [Value.ownBlock]; intro e; injection e with e; exact HG.out e)⟩); clear hown hgrow hat hkeep))
      have hp : pre ws i + x = pre ws (i + 1) := (pre_succ HX.out).symm
      have N5 := hid (NOwn.next (f := pre ws) HOO.out HO9.out B4.out (by rw [← hp]; exact V4.out) B2.out.size F4.out HO5.out HG5.out HA5.out)
      have B5 : Hid (Below w.heap.size w w5) := by
        have h1 : Below w.heap.size w (w4.alloc (.cells #[.slice a4 (limbs (pre ws i + x)).length c4] 69)) := (hB.out.trans (B4.out.mono hB.out.size)).alloc (hB.out.trans (B4.out.mono hB.out.size)).size _
        refine h1.trans ⟨HG5.out.os, HG5.out.tape, HG5.out.output, HG5.out.size, fun j hj => HG5.out.block j (Nat.lt_of_lt_of_le hj h1.size) fun e => ?_⟩
        have e' : j = G := Option.some.inj e
        rw [e'] at hj
        exact absurd hj (by omega)
      clear HO5 HG5 HA5 KEEP
      go_wp2_with fail
      go_roundw
      case rel => exact ⟨i + 1, by go_num, by omega, N5, B5⟩
      case measure => simp [intOf] <;> omega
    · obtain rfl : i = N := by omega
      go_wp2_with fail
      go_ret
      exact ⟨⟨_, rfl, hO.out.row⟩, hB.out⟩
end Go.Proofs.YtpheklgnmbpobaaGreatDoor
namespace Go.Proofs.YtpheklgnmbpobaaGreatDoor
open Go.RowKit Go.Shelf
open Go.Lib (decDigits nDigits)
set_option linter.unusedVariables false
set_option linter.unusedSimpArgs false
def inI (ws : List Nat) (k t i : Nat) : Bool := decide (pre ws i * t ≤ k * ws.sum) && decide (k * ws.sum + ws.sum ≤ pre ws (i + 1) * t)
def FndI (ws : List Nat) (k t : Nat) (i : Nat) (d : Bool) : Prop := (d = true ∧ i < ws.length ∧ inI ws k t i = true) ∨ (d = false ∧ i = 0 ∧ ∀ x, x < ws.length → inI ws k t x = false)
theorem fnd_pk {ws : List Nat} {k t i : Nat} {d : Bool} (hk : k < t) (hS : 0 < ws.sum) (h : FndI ws k t i d) : d = (pkF ws k t).2 ∧ (d = true → i = (pkF ws k t).1) := by
  have hkt : k * ws.sum < t * ws.sum := Nat.mul_lt_mul_of_pos_right hk hS
  obtain ⟨j, hj⟩ : ∃ j, fstI (fun i => decide (k * ws.sum < pre ws (i + 1) * t)) ws.length = j := ⟨_, rfl⟩
  obtain ⟨h1, h2⟩ : (∀ x, x < j → ¬ k * ws.sum < pre ws (x + 1) * t) ∧ (j < ws.length → k * ws.sum < pre ws (j + 1) * t) := by
    rw [← hj]
    unfold fstI
    refine ⟨fun x hx => ?_, fun hl => ?_⟩
    · have := List.not_of_lt_findIdx hx
      simpa using this
    · have hl' : (List.range ws.length).findIdx (fun i => decide (k * ws.sum < pre ws (i + 1) * t)) < (List.range ws.length).length := by simpa using hl
      have := List.findIdx_getElem (w := hl')
      simpa using this
  have hpk : (pkF ws k t) = (j, decide (j < ws.length) && decide (k * ws.sum + ws.sum ≤ pre ws (j + 1) * t)) := by
    unfold pkF; rw [hj]
  have uniq : ∀ x, x < ws.length → inI ws k t x = true → x = j := by
    intro x hx hp
    simp only [inI, Bool.and_eq_true, decide_eq_true_eq] at hp
    rcases Nat.lt_trichotomy x j with h | h | h
    · have := h1 x h; omega
    · exact h
    · have hjl : j < ws.length := by omega
      have := h2 hjl
      have hm : pre ws (j + 1) * t ≤ pre ws x * t := Nat.mul_le_mul_right _ (pre_mono ws (by omega))
      omega
  rw [hpk]
  rcases h with ⟨rfl, hi, hp⟩ | ⟨rfl, rfl, hn⟩
  · obtain rfl := uniq i hi hp
    simp only [inI, Bool.and_eq_true, decide_eq_true_eq] at hp
    exact ⟨by simp [hi, hp.2], fun _ => rfl⟩
  · refine ⟨?_, fun h => by cases h⟩
    by_cases hjl : j < ws.length
    · have h3 := hn j hjl
      have h4 : pre ws j * t ≤ k * ws.sum := by
        rcases Nat.eq_zero_or_pos j with h0 | h0
        · rw [h0, pre_zero]; omega
        · have := h1 (j - 1) (by omega)
          rw [Nat.sub_add_cancel h0] at this
          omega
      simp only [inI, h4, decide_true, Bool.true_and] at h3
      simp [hjl, h3]
    · simp [hjl]
theorem upto_next {p : Nat → Bool} {i : Nat} (h : ∀ x, x < i → p x = false) (hi : p i = false) : ∀ x, x < i + 1 → p x = false := fun x hx => by
  rcases Nat.lt_or_ge x i with h' | h'
  · exact h x h'
  · obtain rfl : x = i := by omega
    exact hi
def RetFnd (ws : List Nat) (k t : Nat) (e : Ending) : Prop := ∃ (i : Nat) (d : Bool), e = .returned (.tuple #[.int .i64 (i : Nat), .bool d]) ∧ FndI ws k t i d
set_option maxRecDepth 100000 in
set_option maxHeartbeats 4000000 in
theorem r5_Find (w : World) (v : Value) (b : ByteArray) (ws : List Nat) (hws : WsOk ws) (hv : NRow w v (ws.length + 1) (pre ws)) (hb : b.size ≤ 256) :
    Calls Tryz.prog 153 #[v, .string b] w fun e w' => RetFnd ws (bv b.data.toList) (2 ^ b.size) e ∧ Below w.heap.size w w' := by
  have HV := hid hv; have HWS := hid hws
  obtain ⟨N, hN⟩ : ∃ N, ws.length = N := ⟨_, rfl⟩
  have HN := hid hN
  have hN64 : N ≤ 64 := by rw [← hN]; exact hws.len
  rw [hN] at HV
  obtain ⟨a, c, rfl, q1, q2, q3⟩ := HV.out.open
  obtain ⟨g, o, y0, rfl, hg, hc0, hy0⟩ := q3 N (by omega)
  obtain ⟨k, hk⟩ : ∃ k, bv b.data.toList = k := ⟨_, rfl⟩
  obtain ⟨t, ht⟩ : ∃ t, 2 ^ b.size = t := ⟨_, rfl⟩
  obtain ⟨z, hz⟩ : ∃ z, b.size = z := ⟨_, rfl⟩
  have hall : pre ws N = ws.sum := pre_all (by omega)
  rw [hall] at hy0
  have HY0 := hid hy0
  have HCell : Hid (∀ i, i ≤ N → ∃ y, w.cell? ⟨g, o + i, none⟩ = some y ∧ IsN .i64 w y (pre ws i)) := fun i hi => by
    obtain ⟨g', o', y, e, -, h1, h2⟩ := q3 i (by omega)
    simp only [Option.some.injEq, Addr.mk.injEq] at e
    obtain ⟨rfl, rfl, -⟩ := e
    exact ⟨y, h1, h2⟩
  have tle : t ≤ 2 ^ 256 := by rw [← ht]; exact Nat.pow_le_pow_right (by omega) (by omega)
  have klt : k ≤ 2 ^ 256 := by
    have h := bv_lt (l := b.data.toList) b.data.toList.length (Nat.le_refl _)
    rw [List.take_length, hk] at h
    exact Nat.le_trans (Nat.le_of_lt h) (Nat.pow_le_pow_right (by omega) (by simp; omega))
  have big : ∀ x, x ≤ 2 ^ 256 → nDigits x ≤ 78 := fun x hx => nDigits_le (by omega) (Nat.lt_of_le_of_lt hx (by decide))
  have dk := big k klt
  have LK : Hid ((limbs k).length ≤ 1000000) := num_limbs (by omega)
  have LT : Hid ((limbs t).length ≤ 1000000) := num_limbs (by have := big t tle; omega)
  have LP : Hid (∀ i, (limbs (pre ws i)).length ≤ 1000000) := fun i => num_limbs (by have := hws.pre i; omega)
  have LS : Hid ((limbs ws.sum).length ≤ 1000000) := num_limbs (by have := hws.sum; omega)
  have LKS : Hid ((limbs (k * ws.sum)).length ≤ 1000000) := num_limbs (by have := nd_mul dk hws.sum (by omega); omega)
  have RV := fun V => hid (r3_Value V b (by omega))
  have RT := fun V => hid (r3_Two V b.size (by omega))
  rw [hk] at RV ⊢
  rw [ht] at RT ⊢
  rw [hz] at RT
  have HZ := hid hz
  clear hv hws hN q3 hk ht hy0 klt tle hall big dk
  have b1 : (0 : Int) ≤ (N : Int) := by omega
  have b2 : (N : Int) < (N : Int) + 1 := by omega
  have b3 : (N : Int) < ((N + 1 : Nat) : Int) := by omega
  have w1 : IntKind.i64.wrap (((N + 1 : Nat) : Int) - 1) = (N : Int) := by rw [IntWalk.i64_in _ ⟨by omega, by omega⟩]; omega
  obtain ⟨S, hS⟩ : ∃ S, ws.sum = S := ⟨_, rfl⟩
  have HS := hid hS
  rw [hS] at HY0 LS LKS
  clear hS
  go_enter Tryz.func153, Tryz.ntmps153
  go_wp2_with fail
  refine (RT _).out.mono ?_; rintro e w1 ⟨⟨v1, rfl, hv1⟩, hb1⟩
  have V1 := hid hv1; have B1 := hid hb1; clear hv1 hb1
  go_wp2_with fail
  refine (RV _).out.mono ?_; rintro e w2 ⟨⟨v2, rfl, hv2⟩, hb2⟩
  have V2 := hid hv2; have B2 := hid (bnext B1.out hb2); have V12 := hid (V1.out.call hb2); clear hv2 hb2
  go_wp2_with fail
  refine (r1_Times _ _ _ _ _ V2.out (HY0.out.call B2.out) LK.out LS.out).mono ?_; rintro e w3 ⟨⟨v3, rfl, hv3⟩, hb3⟩
  have V3 := hid hv3; have B3 := hid (bnext B2.out hb3); have V13 := hid (V12.out.call hb3); clear hv3 hb3
  go_wp2_with fail
  refine (r1_Plus _ _ _ _ _ V3.out (HY0.out.call B3.out) LKS.out LS.out).mono ?_; rintro e w4 ⟨⟨v4, rfl, hv4⟩, hb4⟩
  have V4 := hid hv4; have B4 := hid (bnext B3.out hb4); have V14 := hid (V13.out.call hb4); have V34 := hid (V3.out.call hb4); clear hv4 hb4
  clear V1 V2 V3 V12 V13 B1 B2 B3
  go_wp2_with fail
  go_loopw [10] (fun ii wr => ∃ i : Nat, ii = .int .i64 i ∧ i ≤ N ∧ Hid (∀ x, x < i → inI ws k t x = false) ∧ Hid (Below w4.heap.size w4 wr)) (fun ii wr => N - (intOf ii).toNat)
  case atStart => exact ⟨0, rfl, Nat.zero_le _, fun x hx => absurd hx (by omega), Below.refl _ _⟩
  case round =>
    obtain ⟨i, rfl, hi, hI, hB⟩ := hrel
    have wi : IntKind.i64.wrap ((i : Int) + 1) = ((i + 1 : Nat) : Int) := by rw [IntWalk.i64_in _ ⟨by omega, by omega⟩]; omega
    by_cases hlt : i < N
    · obtain ⟨y, hc, hy⟩ := HCell.out i (by omega)
      obtain ⟨y', hc', hy'⟩ := HCell.out (i + 1) (by omega)
      have BB := hid (bnext B4.out hB.out)
      have hcw := (BB.out.cell (p := ⟨g, o + i, none⟩) hg).trans hc
      have CW' := hid fun W (h : Below w.heap.size w W) => (h.cell (p := ⟨g, o + (i + 1), none⟩) hg).trans hc'
      have HY := hid hy; have HY' := hid hy'
      have c1 : (0 : Int) ≤ (i : Int) := by omega
      have c2 : (i : Int) < (N : Int) + 1 := by omega
      have c3 : (i : Int) + 1 < (N : Int) + 1 := by omega
      have c4 : (0 : Int) ≤ (i : Int) + 1 := by omega
      clear hc hc' hy hy'
      go_wp2_with fail
      refine (r1_Times _ _ _ _ _ (HY.out.call BB.out) (V14.out.call hB.out) (LP.out i) LT.out).mono ?_; rintro e w5 ⟨⟨v5, rfl, hv5⟩, hb5⟩
      have V5 := hid hv5; have B5 := hid (bnext hB.out hb5); clear hv5 hb5
      go_wp2_with fail
      refine (r1_Order _ _ _ _ _ V5.out (V34.out.call B5.out)).mono ?_; rintro e w6 ⟨rfl, hb6⟩
      have B6 := hid (bnext B5.out hb6); clear hb6
      obtain ⟨z1, hz1⟩ : ∃ z1, ordN (pre ws i * t) (k * S) = z1 := ⟨_, rfl⟩
      have D1 := hid (show decide (z1 ≤ 0) = decide (pre ws i * t ≤ k * S) from by rw [← hz1]; exact pk_le)
      rw [hz1]
      have hcw' := CW'.out _ (bnext B4.out B6.out)
      clear hz1 hcw
      cases hd1 : decide (z1 ≤ 0)
      · have HN1 : Hid (inI ws k t i = false) := by
          have := D1.out
          rw [hd1] at this
          show inI ws k t i = false
          rw [inI, HS.out, ← this, Bool.false_and]
        go_wp2_with fail
        go_roundw
        case rel => exact ⟨i + 1, by go_num, by omega, upto_next hI.out HN1.out, B6⟩
        case measure => simp [intOf] <;> omega
      · have HD1 := hid hd1
        go_wp2_with fail
        refine (r1_Times _ _ _ _ _ (HY'.out.call (bnext B4.out B6.out)) (V14.out.call B6.out) (LP.out (i + 1)) LT.out).mono ?_; rintro e w7 ⟨⟨v7, rfl, hv7⟩, hb7⟩
        have V7 := hid hv7; have B7 := hid (bnext B6.out hb7); clear hv7 hb7
        go_wp2_with fail
        refine (r1_Order _ _ _ _ _ (V4.out.call B7.out) V7.out).mono ?_; rintro e w8 ⟨rfl, hb8⟩
        have B8 := hid (bnext B7.out hb8); clear hb8
        obtain ⟨z2, hz2⟩ : ∃ z2, ordN (k * S + S) (pre ws (i + 1) * t) = z2 := ⟨_, rfl⟩
        have D2 := hid (show decide (z2 ≤ 0) = decide (k * S + S ≤ pre ws (i + 1) * t) from by rw [← hz2]; exact pk_le)
        rw [hz2]
        have HI : Hid (inI ws k t i = decide (z2 ≤ 0)) := by
          show inI ws k t i = _
          rw [inI, HS.out, ← D1.out, HD1.out, D2.out, Bool.true_and]
        clear hz2
        cases hd2 : decide (z2 ≤ 0)
        · have HN1 : Hid (inI ws k t i = false) := by rw [hd2] at HI; exact HI
          go_wp2_with fail
          go_roundw
          case rel => exact ⟨i + 1, by go_num, by omega, upto_next hI.out HN1.out, B8⟩
          case measure => simp [intOf] <;> omega
        · have HN1 : Hid (inI ws k t i = true) := by rw [hd2] at HI; exact HI
          go_wp2_with fail
          go_ret2
          exact ⟨⟨i, true, rfl, .inl ⟨rfl, by rw [HN.out]; exact hlt, HN1.out⟩⟩, bnext B4.out B8.out⟩
    · obtain rfl : i = N := by omega
      go_wp2_with fail
      go_ret2
      exact ⟨⟨0, false, rfl, .inr ⟨rfl, rfl, fun x hx => hI.out x (by rw [← HN.out]; exact hx)⟩⟩, bnext B4.out hB.out⟩
end Go.Proofs.YtpheklgnmbpobaaGreatDoor
namespace Go.Proofs.YtpheklgnmbpobaaGreatDoor
open Go.RowKit Go.Shelf
open Go.Lib (decDigits nDigits)
set_option linter.unusedVariables false
set_option linter.unusedSimpArgs false
structure ShI (f : Nat → Nat → Nat × Bool) (L : List UInt8) (i : Nat) : Prop where
  le : i ≤ L.length + 1
  eq : i ≤ L.length → pdAt f L (bv (L.take i)) (2 ^ i) i = pdr f 0 1 L
  last : i = L.length + 1 → pdr f 0 1 L = (false, 0, L.length)
theorem ShI.start (f : Nat → Nat → Nat × Bool) (L : List UInt8) : ShI f L 0 := ⟨by omega, fun _ => by rw [← pdAt_start]; simp [bv], fun h => by omega⟩
theorem ShI.next {f : Nat → Nat → Nat × Bool} {L : List UInt8} {i : Nat} (h : ShI f L i) (hi : i ≤ L.length) (hn : (f (bv (L.take i)) (2 ^ i)).2 = false) : ShI f L (i + 1) := by
  refine ⟨by omega, fun hlt => ?_, fun he => ?_⟩
  · have := h.eq hi
    rw [pdAt_next hn (by omega)] at this
    rw [← this, bv_take (l := L) (i := i) (b := L[i]) (List.getElem?_eq_getElem (by omega)), Nat.pow_succ, Nat.mul_two]
  · have := h.eq hi
    obtain rfl : i = L.length := by omega
    rw [pdAt_late hn] at this
    exact this.symm
theorem ShI.done {f : Nat → Nat → Nat × Bool} {L : List UInt8} {i : Nat} (h : ShI f L i) (hi : i ≤ L.length) (hn : (f (bv (L.take i)) (2 ^ i)).2 = true) : pdr f 0 1 L = (true, (f (bv (L.take i)) (2 ^ i)).1, i) := by
  rw [← h.eq hi, pdAt_done hn]
theorem take_ex (s : ByteArray) {i : Nat} (h : i ≤ s.size) : (s.extract 0 i).data.toList = s.data.toList.take i ∧ (s.extract 0 i).size = i := by
  refine ⟨by rw [extract_list]; simp, by simp; omega⟩
set_option maxRecDepth 100000 in
set_option maxHeartbeats 2000000 in
theorem r5_Shortest (w : World) (v : Value) (s : ByteArray) (ws : List Nat) (hws : WsOk ws) (hS : 0 < ws.sum) (hv : NRow w v (ws.length + 1) (pre ws)) (hs : s.size ≤ 256) :
    Calls Tryz.prog 114 #[v, .string s] w fun e w' => e = .returned (dw3 (pdr (pkF ws) 0 1 s.data.toList)) ∧ Below w.heap.size w w' := by
  have RE : Hid (∀ V i, i ≤ s.size → Below w.heap.size w V → Calls Tryz.prog 153 #[v, .string (s.extract 0 i)] V fun e w' => RetFnd ws (bv (s.data.toList.take i)) (2 ^ i) e ∧ Below V.heap.size V w') := fun V i hi hb => by
    have h := r5_Find V v (s.extract 0 i) ws hws (hv.call hb) (by rw [(take_ex s hi).2]; omega)
    rw [(take_ex s hi).1, (take_ex s hi).2] at h
    exact h
  obtain ⟨a, c, rfl, -, -, -⟩ := hv.open
  obtain ⟨N1, hN1⟩ : ∃ x, ws.length + 1 = x := ⟨_, rfl⟩
  rw [hN1] at RE ⊢
  obtain ⟨L, hL⟩ : ∃ L, s.data.toList = L := ⟨_, rfl⟩
  have hlen := hid (show L.length = s.size from by rw [← hL]; simp)
  rw [hL] at RE ⊢
  have HS := hid hS
  clear hws hS hv hN1 hL
  have x1 := hid (Blk.made w #[.bool false, .int .i64 0, .int .i64 0] 33 (n := w.heap.size) rfl)
  have b1 := hid ((Below.refl w.heap.size w).alloc (Nat.le_refl _) (.cells #[.bool false, .int .i64 0, .int .i64 0] 33))
  go_enter Tryz.func114, Tryz.ntmps114
  go_wp2_with fail
  go_loopw [5] (fun ii wr => ∃ i : Nat, ii = .int .i64 i ∧ Hid (ShI (pkF ws) L i) ∧ i ≤ s.size + 1 ∧ Hid (Blk wr w.heap.size #[.bool false, .int .i64 0, .int .i64 0] 33) ∧ Hid (Below w.heap.size w wr)) (fun ii wr => s.size + 1 - (intOf ii).toNat)
  case atStart => exact ⟨0, rfl, ShI.start _ _, by omega, x1, b1⟩
  case round =>
    obtain ⟨i, rfl, hI, hi, k1, hB⟩ := hrel
    by_cases hle : i ≤ s.size
    · have q0 : decide (i ≤ s.size) = true := by simpa using hle
      have RI := hid (RE.out wr i hle hB.out)
      have hbv : bv (L.take i) < 2 ^ i := bv_lt i (by rw [hlen.out]; exact hle)
      have HBV := hid hbv
      clear hbv
      go_wp2_with fail
      refine RI.out.mono ?_; rintro e w2 ⟨⟨vv, bb, rfl, hf⟩, hb2⟩
      obtain ⟨h1, h2⟩ := fnd_pk HBV.out HS.out hf
      have H1 := hid h1; have H2 := hid h2
      have B2 := hid (hB.out.trans (hb2.mono hB.out.size)); have k12 := hid (k1.out.call hb2)
      clear hb2 hf h1 h2
      cases bb
      · have NX := hid (hI.out.next (by rw [hlen.out]; exact hle) H1.out.symm)
        go_wp2_with fail
        go_roundw
        case rel => exact ⟨i + 1, by go_num, NX, by omega, k12, B2⟩
        case measure => simp [intOf] <;> omega
      · have DN := hid (hI.out.done (by rw [hlen.out]; exact hle) H1.out.symm)
        rw [← H2.out rfl] at DN
        have r0 := k12.out.cell 0
        have r1 := k12.out.cell 1
        have r2 := k12.out.cell 2
        have f0 := k12.out.free 0
        have f1 := k12.out.free 1
        have f2 := k12.out.free 2
        simp at r0 r1 r2
        go_wp2_with fail
        have s3 := ((k12.out.set 0 (.bool true)).set 1 (.int .i64 (vv : Nat))).set 2 (.int .i64 (i : Nat))
        have z0 := s3.cell 0
        have z1 := s3.cell 1
        have z2 := s3.cell 2
        simp at z0 z1 z2
        refine bodyPost_ret (v := .agg #[.bool true, .int .i64 (vv : Nat), .int .i64 (i : Nat)]) (by simp [results, Tryz.results114, go_sem, z0, z1, z2]) rfl ⟨by rw [DN.out]; rfl, ?_⟩
        exact ((B2.out.setCell (Nat.le_refl _) _).setCell (Nat.le_refl _) _).setCell (Nat.le_refl _) _
    · obtain rfl : i = s.size + 1 := by omega
      have LS := hid (hI.out.last (by rw [hlen.out]))
      have q0 : decide (s.size + 1 ≤ s.size) = false := by simp
      have r0 := k1.out.cell 0
      have r1 := k1.out.cell 1
      have r2 := k1.out.cell 2
      have f0 := k1.out.free 0
      have f1 := k1.out.free 1
      have f2 := k1.out.free 2
      simp at r0 r1 r2
      go_wp2_with fail
      have s3 := ((k1.out.set 0 (.bool false)).set 1 (.int .i64 0)).set 2 (.int .i64 (s.size : Nat))
      have z0 := s3.cell 0
      have z1 := s3.cell 1
      have z2 := s3.cell 2
      simp at z0 z1 z2
      refine bodyPost_ret (v := .agg #[.bool false, .int .i64 0, .int .i64 (s.size : Nat)]) (by simp [results, Tryz.results114, go_sem, z0, z1, z2]) rfl ⟨by rw [LS.out, hlen.out]; rfl, ?_⟩
      exact ((hB.out.setCell (Nat.le_refl _) _).setCell (Nat.le_refl _) _).setCell (Nat.le_refl _) _
end Go.Proofs.YtpheklgnmbpobaaGreatDoor
namespace Go.Proofs.YtpheklgnmbpobaaGreatDoor
open Go.RowKit Go.Shelf
open Go.Lib (decDigits nDigits)
set_option linter.unusedVariables false
set_option linter.unusedSimpArgs false
set_option maxRecDepth 100000 in
set_option maxHeartbeats 4000000 in
theorem r5_Draw (w : World) (v : Value) (l : List ByteArray) (b : ByteArray) (hv : Row w v (strs l)) (hl : ∀ x ∈ l, x.size ≤ 1000000) (hb : b.size ≤ 100000000) :
    Calls Tryz.prog 63 #[v, .string b] w fun e w' => e = .returned (.tuple #[dw3 (dr3 l b), .int .i64 (drE l b)]) ∧ Below w.heap.size w w' := by
  have PC := fun V hV => hid ((r5_Check V v l hV hl).mono fun e w' (h : e = .returned (.int .i64 (wsE l)) ∧ V = w') => (⟨h.1, h.2 ▸ Below.refl _ _⟩ : e = .returned (.int .i64 (wsE l)) ∧ Below V.heap.size V w'))
  have PD := fun V => hid ((r4_BitsP V b hb).mono fun e w' (h : e = .returned (.int .i64 (chkE b)) ∧ V = w') => (⟨h.1, h.2 ▸ Below.refl _ _⟩ : e = .returned (.int .i64 (chkE b)) ∧ Below V.heap.size V w'))
  have PE := fun V hws hV => hid (r5_Sums V v (l.map bN) hws hV)
  have HV := hid hv
  obtain ⟨a, c, rfl, q1, q2, -⟩ := hv.openS
  obtain ⟨N, hN⟩ : ∃ N, l.length = N := ⟨_, rfl⟩
  have HN := hid hN
  rw [hN] at PC PE q1 HV ⊢
  clear hv hl hN
  have A0 := hid ((Below.refl w.heap.size w).alloc (Nat.le_refl _) (.cells #[.bool false, .int .i64 0, .int .i64 0] 33))
  have x0 := hid (Blk.new w #[.bool false, .int .i64 0, .int .i64 0] 33)
  obtain ⟨z, hz⟩ : ∃ z, wsE l = z := ⟨_, rfl⟩
  obtain ⟨y, hy⟩ : ∃ y, chkE b = y := ⟨_, rfl⟩
  have HZ := hid hz; have HY := hid hy
  rw [hz] at PC
  rw [hy] at PD
  by_cases h0 : z = 0
  · by_cases h1 : y = 0
    · obtain ⟨D1, D2, D3⟩ := wsE_ok (hz.trans h0)
      have HPOS := hid (wsE_pos (hz.trans h0))
      have hE : drE l b = 0 := by unfold drE; rw [hz, hy, h0, h1]; simp
      have hR : dr3 l b = pdr (pkF (l.map bN)) 0 1 b.data.toList := by unfold dr3; rw [if_pos hE]
      rw [hE, hR]
      have h256 := chkE_size (hy.trans h1)
      obtain ⟨ws, hws⟩ : ∃ ws, l.map bN = ws := ⟨_, rfl⟩
      rw [hws] at PE D1 D2 HPOS ⊢
      have HWS := hid D2
      have HD1 := hid D1
      have RS := fun V u (hu : NRow V u (ws.length + 1) (pre ws)) => hid (r5_Shortest V u b ws D2 HPOS.out hu h256)
      obtain ⟨X, hX⟩ : ∃ X, pdr (pkF ws) 0 1 b.data.toList = X := ⟨_, rfl⟩
      rw [hX] at RS ⊢
      subst h0 h1
      clear D1 D2 D3 hE hR hz hy hws hb hX
      go_enter Tryz.func63, Tryz.ntmps63
      go_wp2_with fail
      refine (PC _ (HV.out.call A0.out)).out.mono ?_; rintro e w1 ⟨rfl, hb1⟩
      have y1 := hid (bnext A0.out hb1); have k1 := hid (x0.out.call hb1)
      clear hb1
      go_wp2_with fail
      refine (PD _).out.mono ?_; rintro e w2 ⟨rfl, hb2⟩
      have y2 := hid (bnext y1.out hb2); have k2 := hid (k1.out.call hb2)
      clear hb2
      go_wp2_with fail
      refine (PE _ HWS.out (by rw [← HD1.out]; exact HV.out.call y2.out)).out.mono ?_; rintro e w3 ⟨⟨u, rfl, hu⟩, hb3⟩
      have y3 := hid (bnext y2.out hb3); have k3 := hid (k2.out.call hb3); have HU := hid hu
      clear hb3 hu
      go_wp2_with fail
      refine (RS _ _ HU.out).out.mono ?_; rintro e w4 ⟨rfl, hb4⟩
      have y4 := hid (bnext y3.out hb4); have k4 := hid (k3.out.call hb4)
      obtain ⟨d, vv, uu⟩ := X
      simp only [dw3]
      clear hb4
      have r0 := k4.out.cell 0
      have r1' := k4.out.cell 1
      have r2' := k4.out.cell 2
      have f0 := k4.out.free 0
      have f1 := k4.out.free 1
      have f2 := k4.out.free 2
      simp at r0 r1' r2'
      go_wp2_with fail
      have s3 := ((k4.out.set 0 (.bool d)).set 1 (.int .i64 (vv : Nat))).set 2 (.int .i64 (uu : Nat))
      have z0 := s3.cell 0
      have z1 := s3.cell 1
      have z2 := s3.cell 2
      simp at z0 z1 z2
      refine bodyPost_ret (v := .tuple #[.agg #[.bool d, .int .i64 (vv : Nat), .int .i64 (uu : Nat)], .int .i64 0]) (by simp [results, Tryz.results63, go_sem, z0, z1, z2]) rfl ⟨rfl, ?_⟩
      exact ((y4.out.setCell (Nat.le_refl _) _).setCell (Nat.le_refl _) _).setCell (Nat.le_refl _) _
    · have hE : drE l b = y := by unfold drE; rw [hz, hy, h0]; simp
      have hR : dr3 l b = (false, 0, 0) := by unfold dr3; rw [if_neg (by rw [hE]; exact h1)]
      rw [hE, hR]
      simp only [dw3]
      have q3 : (y == 0) = false := by rw [beq_eq_false_iff_ne]; exact h1
      have q4 : (y != 0) = true := by rw [bne_iff_ne]; exact h1
      subst h0
      clear hE hR hz hy hb h1
      go_enter Tryz.func63, Tryz.ntmps63
      go_wp2_with fail
      refine (PC _ (HV.out.call A0.out)).out.mono ?_; rintro e w1 ⟨rfl, hb1⟩
      have y1 := hid (bnext A0.out hb1); have k1 := hid (x0.out.call hb1)
      clear hb1
      go_wp2_with fail
      refine (PD _).out.mono ?_; rintro e w2 ⟨rfl, hb2⟩
      have y2 := hid (bnext y1.out hb2); have k2 := hid (k1.out.call hb2)
      clear hb2
      have r0 := k2.out.cell 0
      have r1' := k2.out.cell 1
      have r2' := k2.out.cell 2
      have f0 := k2.out.free 0
      have f1 := k2.out.free 1
      have f2 := k2.out.free 2
      simp at r0 r1' r2'
      go_wp2_with fail
      have s3 := ((k2.out.set 0 (.bool false)).set 1 (.int .i64 0)).set 2 (.int .i64 0)
      have z0 := s3.cell 0
      have z1 := s3.cell 1
      have z2 := s3.cell 2
      simp at z0 z1 z2
      refine bodyPost_ret (v := .tuple #[.agg #[.bool false, .int .i64 0, .int .i64 0], .int .i64 y]) (by simp [results, Tryz.results63, go_sem, z0, z1, z2]) rfl ⟨rfl, ?_⟩
      exact ((y2.out.setCell (Nat.le_refl _) _).setCell (Nat.le_refl _) _).setCell (Nat.le_refl _) _
  · have hE : drE l b = z := by unfold drE; rw [hz, if_pos h0]
    have hR : dr3 l b = (false, 0, 0) := by unfold dr3; rw [if_neg (by rw [hE]; exact h0)]
    rw [hE, hR]
    simp only [dw3]
    have q3 : (z == 0) = false := by rw [beq_eq_false_iff_ne]; exact h0
    have q4 : (z != 0) = true := by rw [bne_iff_ne]; exact h0
    clear hE hR hz hy hb h0
    go_enter Tryz.func63, Tryz.ntmps63
    go_wp2_with fail
    refine (PC _ (HV.out.call A0.out)).out.mono ?_; rintro e w1 ⟨rfl, hb1⟩
    have y1 := hid (bnext A0.out hb1); have k1 := hid (x0.out.call hb1)
    clear hb1
    have r0 := k1.out.cell 0
    have r1' := k1.out.cell 1
    have r2' := k1.out.cell 2
    have f0 := k1.out.free 0
    have f1 := k1.out.free 1
    have f2 := k1.out.free 2
    simp at r0 r1' r2'
    go_wp2_with fail
    have s3 := ((k1.out.set 0 (.bool false)).set 1 (.int .i64 0)).set 2 (.int .i64 0)
    have z0 := s3.cell 0
    have z1 := s3.cell 1
    have z2 := s3.cell 2
    simp at z0 z1 z2
    refine bodyPost_ret (v := .tuple #[.agg #[.bool false, .int .i64 0, .int .i64 0], .int .i64 z]) (by simp [results, Tryz.results63, go_sem, z0, z1, z2]) rfl ⟨rfl, ?_⟩
    exact ((y1.out.setCell (Nat.le_refl _) _).setCell (Nat.le_refl _) _).setCell (Nat.le_refl _) _
end Go.Proofs.YtpheklgnmbpobaaGreatDoor
namespace Go.Proofs.YtpheklgnmbpobaaGreatDoor
open Go.RowKit
set_option linter.unusedVariables false
set_option maxHeartbeats 4000000 in
theorem r1_Minus (w : World) (v u : Value) (a b : Nat) (ha : IsN .i64 w v a) (hb : IsN .i64 w u b) (hle : b ≤ a) (hla : (limbs a).length ≤ 1000000) :
    Calls Tryz.prog 104 #[v, u] w fun e w' => RetN .i64 (a - b) e w' ∧ Below w.heap.size w w' := by
  obtain ⟨i0, hi, hz0, hz1, hz2⟩ := info_parts info_int
  obtain ⟨a1, c1, rfl, h1, h2, h3⟩ := ha.openI
  obtain ⟨a2, c2, rfl, k1, k2, k3⟩ := hb.openI
  have H3 := hid h3; have K3 := hid k3; clear h3 k3 ha hb
  have hmn := limbs_length_mono hle
  obtain ⟨n, ea⟩ : ∃ n, (limbs a).length = n := ⟨_, rfl⟩
  obtain ⟨m, eb⟩ : ∃ m, (limbs b).length = m := ⟨_, rfl⟩
  rw [ea] at h1 hla hmn ⊢
  rw [eb] at k1 hmn ⊢
  have HA := hid ea; have HB := hid eb; have HL := hid hle
  clear ea eb hle
  go_enter Tryz.func104, Tryz.ntmps104
  go_wp2_with fail
  go_loopw [5, 6, 7, 8] (fun o cc i nn wr => ∃ (s : List Nat) (c : Nat) (C : Int), i = .int .i64 s.length ∧ cc = .int .i64 C ∧ C = (c : Int) ∧ c ≤ 1 ∧ s.length ≤ n ∧ Hid (MinusI a b s c) ∧ Hid (wr.ownsRow w.heap.size 3 1 o s.length (ints .i64 s)) ∧ Hid (Below w.heap.size w wr))
    (fun _ _ i _ _ => n - (intOf i).toNat)
  case atStart => exact ⟨[], 0, 0, rfl, rfl, rfl, by omega, by simp, MinusI.start a b, World.ownsRow_nil _ _ _ _, Below.refl _ _⟩
  case round =>
    obtain ⟨s, c, C, rfl, rfl, hC, hc1, hs1, hP, hO, hB⟩ := hrel
    obtain ⟨ao, co, rfl⟩ := owns_ex hO.out
    by_cases hA : s.length < n
    · obtain ⟨x, hx⟩ : ∃ x, (limbs a)[s.length]? = some x := ⟨_, List.getElem?_eq_getElem (by rw [HA.out]; exact hA)⟩
      obtain ⟨g, og, rfl, hg, hc⟩ := H3.out _ x hx
      have hc' := (hB.out.cell (p := ⟨g, og + s.length, none⟩) hg).trans hc
      have hxl := (sm_limbs a).get hx
      have HX := hid hx; clear hx hc
      by_cases hB' : s.length < m
      · obtain ⟨y, hy⟩ : ∃ y, (limbs b)[s.length]? = some y := ⟨_, List.getElem?_eq_getElem (by rw [HB.out]; exact hB')⟩
        obtain ⟨g', og', rfl, hg', hd⟩ := K3.out _ y hy
        have hd' := (hB.out.cell (p := ⟨g', og' + s.length, none⟩) hg').trans hd
        have hyl := (sm_limbs b).get hy
        have HY := hid hy; clear hy hd
        rcases (show c = 0 ∨ c = 1 by omega) with rfl | rfl
        · obtain rfl : C = 0 := by omega
          clear hC
          by_cases hneg : x < y + 0
          · obtain ⟨z, hz0', hz1', hzI⟩ : ∃ z : Nat, x + 1000000000 * 1 = z + 0 + y ∧ z < 1000000000 ∧ Hid ((↑x - ↑y + 1000000000 : Int) = (z : Int)) := ⟨((↑x - ↑y + 1000000000 : Int)).toNat, by omega, by omega, by rw [Hid]; omega⟩
            have HN := hid (hP.out.next (z := z) (c' := 1) (by rw [getD_of HX.out, getD_of HY.out]; omega) hz1' (by omega))
            clear hz0' hz1'
            have q1 : decide ((x : Int) - (y : Int) < 0) = true := by simp <;> omega
            clear hneg
            go_wp2_with (at_builtin; refine wpList_append_own _ rfl _ _ 69 rfl w.heap.size 3 i0 (.int .i64 0) 1 8 Tryz.underlying69 hi hz0 hz1 hz2 rfl (by decide) _ s.length _ rfl (hO.out.alloc _) ⟨wr.heap.size, 0, none⟩ 1 1 [.int .i64 ((↑x - ↑y + 1000000000 : Int))] rfl rfl (cell_one_new wr (.int .i64 ((↑x - ↑y + 1000000000 : Int))) 3) (by simp [Value.oneCell']) (by unfold maxLen; omega) (by omega) (by have := hB.out.size; simp; omega) ?_; intro v' w3 hown3 hgrow3 _; have HO3 := hid hown3; have HG3 := hid hgrow3; clear hown3 hgrow3)
            rw [hzI.out] at HO3
            obtain ⟨n1, n2⟩ := own_next hO.out hB.out HO3.out HG3.out
            have N1 := hid n1; have N2 := hid n2; clear n1 n2 HO3 HG3
            obtain ⟨a3, k3, rfl⟩ := owns_ex N1.out
            go_wp2_with fail
            go_roundw
            case rel => exact ⟨s ++ [z], 1, _, by simp, rfl, by simp, by omega, by simp <;> omega, HN, N1, N2⟩
            case measure => simp [intOf] <;> omega
          · obtain ⟨z, hz0', hz1', hzI⟩ : ∃ z : Nat, x + 1000000000 * 0 = z + 0 + y ∧ z < 1000000000 ∧ Hid ((↑x - ↑y : Int) = (z : Int)) := ⟨((↑x - ↑y : Int)).toNat, by omega, by omega, by rw [Hid]; omega⟩
            have HN := hid (hP.out.next (z := z) (c' := 0) (by rw [getD_of HX.out, getD_of HY.out]; omega) hz1' (by omega))
            clear hz0' hz1'
            have q1 : decide ((x : Int) - (y : Int) < 0) = false := by simp <;> omega
            clear hneg
            go_wp2_with (at_builtin; refine wpList_append_own _ rfl _ _ 69 rfl w.heap.size 3 i0 (.int .i64 0) 1 8 Tryz.underlying69 hi hz0 hz1 hz2 rfl (by decide) _ s.length _ rfl (hO.out.alloc _) ⟨wr.heap.size, 0, none⟩ 1 1 [.int .i64 ((↑x - ↑y : Int))] rfl rfl (cell_one_new wr (.int .i64 ((↑x - ↑y : Int))) 3) (by simp [Value.oneCell']) (by unfold maxLen; omega) (by omega) (by have := hB.out.size; simp; omega) ?_; intro v' w3 hown3 hgrow3 _; have HO3 := hid hown3; have HG3 := hid hgrow3; clear hown3 hgrow3)
            rw [hzI.out] at HO3
            obtain ⟨n1, n2⟩ := own_next hO.out hB.out HO3.out HG3.out
            have N1 := hid n1; have N2 := hid n2; clear n1 n2 HO3 HG3
            obtain ⟨a3, k3, rfl⟩ := owns_ex N1.out
            go_wp2_with fail
            go_roundw
            case rel => exact ⟨s ++ [z], 0, _, by simp, rfl, by simp, by omega, by simp <;> omega, HN, N1, N2⟩
            case measure => simp [intOf] <;> omega
        · obtain rfl : C = 1 := by omega
          clear hC
          by_cases hneg : x < y + 1
          · obtain ⟨z, hz0', hz1', hzI⟩ : ∃ z : Nat, x + 1000000000 * 1 = z + 1 + y ∧ z < 1000000000 ∧ Hid ((↑x - 1 - ↑y + 1000000000 : Int) = (z : Int)) := ⟨((↑x - 1 - ↑y + 1000000000 : Int)).toNat, by omega, by omega, by rw [Hid]; omega⟩
            have HN := hid (hP.out.next (z := z) (c' := 1) (by rw [getD_of HX.out, getD_of HY.out]; omega) hz1' (by omega))
            clear hz0' hz1'
            have q1 : decide ((x : Int) - 1 - (y : Int) < 0) = true := by simp <;> omega
            clear hneg
            go_wp2_with (at_builtin; refine wpList_append_own _ rfl _ _ 69 rfl w.heap.size 3 i0 (.int .i64 0) 1 8 Tryz.underlying69 hi hz0 hz1 hz2 rfl (by decide) _ s.length _ rfl (hO.out.alloc _) ⟨wr.heap.size, 0, none⟩ 1 1 [.int .i64 ((↑x - 1 - ↑y + 1000000000 : Int))] rfl rfl (cell_one_new wr (.int .i64 ((↑x - 1 - ↑y + 1000000000 : Int))) 3) (by simp [Value.oneCell']) (by unfold maxLen; omega) (by omega) (by have := hB.out.size; simp; omega) ?_; intro v' w3 hown3 hgrow3 _; have HO3 := hid hown3; have HG3 := hid hgrow3; clear hown3 hgrow3)
            rw [hzI.out] at HO3
            obtain ⟨n1, n2⟩ := own_next hO.out hB.out HO3.out HG3.out
            have N1 := hid n1; have N2 := hid n2; clear n1 n2 HO3 HG3
            obtain ⟨a3, k3, rfl⟩ := owns_ex N1.out
            go_wp2_with fail
            go_roundw
            case rel => exact ⟨s ++ [z], 1, _, by simp, rfl, by simp, by omega, by simp <;> omega, HN, N1, N2⟩
            case measure => simp [intOf] <;> omega
          · obtain ⟨z, hz0', hz1', hzI⟩ : ∃ z : Nat, x + 1000000000 * 0 = z + 1 + y ∧ z < 1000000000 ∧ Hid ((↑x - 1 - ↑y : Int) = (z : Int)) := ⟨((↑x - 1 - ↑y : Int)).toNat, by omega, by omega, by rw [Hid]; omega⟩
            have HN := hid (hP.out.next (z := z) (c' := 0) (by rw [getD_of HX.out, getD_of HY.out]; omega) hz1' (by omega))
            clear hz0' hz1'
            have q1 : decide ((x : Int) - 1 - (y : Int) < 0) = false := by simp <;> omega
            clear hneg
            go_wp2_with (at_builtin; refine wpList_append_own _ rfl _ _ 69 rfl w.heap.size 3 i0 (.int .i64 0) 1 8 Tryz.underlying69 hi hz0 hz1 hz2 rfl (by decide) _ s.length _ rfl (hO.out.alloc _) ⟨wr.heap.size, 0, none⟩ 1 1 [.int .i64 ((↑x - 1 - ↑y : Int))] rfl rfl (cell_one_new wr (.int .i64 ((↑x - 1 - ↑y : Int))) 3) (by simp [Value.oneCell']) (by unfold maxLen; omega) (by omega) (by have := hB.out.size; simp; omega) ?_; intro v' w3 hown3 hgrow3 _; have HO3 := hid hown3; have HG3 := hid hgrow3; clear hown3 hgrow3)
            rw [hzI.out] at HO3
            obtain ⟨n1, n2⟩ := own_next hO.out hB.out HO3.out HG3.out
            have N1 := hid n1; have N2 := hid n2; clear n1 n2 HO3 HG3
            obtain ⟨a3, k3, rfl⟩ := owns_ex N1.out
            go_wp2_with fail
            go_roundw
            case rel => exact ⟨s ++ [z], 0, _, by simp, rfl, by simp, by omega, by simp <;> omega, HN, N1, N2⟩
            case measure => simp [intOf] <;> omega
      · skip
        rcases (show c = 0 ∨ c = 1 by omega) with rfl | rfl
        · obtain rfl : C = 0 := by omega
          clear hC
          by_cases hneg : x < 0 + 0
          · omega
          · obtain ⟨z, hz0', hz1', hzI⟩ : ∃ z : Nat, x + 1000000000 * 0 = z + 0 + 0 ∧ z < 1000000000 ∧ Hid ((↑x : Int) = (z : Int)) := ⟨((↑x : Int)).toNat, by omega, by omega, by rw [Hid]; omega⟩
            have HN := hid (hP.out.next (z := z) (c' := 0) (by rw [getD_of HX.out, getD_none (by rw [HB.out]; omega)]; omega) hz1' (by omega))
            clear hz0' hz1'
            have q1 : decide ((x : Int) < 0) = false := by simp <;> omega
            clear hneg
            go_wp2_with (at_builtin; refine wpList_append_own _ rfl _ _ 69 rfl w.heap.size 3 i0 (.int .i64 0) 1 8 Tryz.underlying69 hi hz0 hz1 hz2 rfl (by decide) _ s.length _ rfl (hO.out.alloc _) ⟨wr.heap.size, 0, none⟩ 1 1 [.int .i64 ((↑x : Int))] rfl rfl (cell_one_new wr (.int .i64 ((↑x : Int))) 3) (by simp [Value.oneCell']) (by unfold maxLen; omega) (by omega) (by have := hB.out.size; simp; omega) ?_; intro v' w3 hown3 hgrow3 _; have HO3 := hid hown3; have HG3 := hid hgrow3; clear hown3 hgrow3)
            rw [hzI.out] at HO3
            obtain ⟨n1, n2⟩ := own_next hO.out hB.out HO3.out HG3.out
            have N1 := hid n1; have N2 := hid n2; clear n1 n2 HO3 HG3
            obtain ⟨a3, k3, rfl⟩ := owns_ex N1.out
            go_wp2_with fail
            go_roundw
            case rel => exact ⟨s ++ [z], 0, _, by simp, rfl, by simp, by omega, by simp <;> omega, HN, N1, N2⟩
            case measure => simp [intOf] <;> omega
        · obtain rfl : C = 1 := by omega
          clear hC
          by_cases hneg : x < 0 + 1
          · obtain ⟨z, hz0', hz1', hzI⟩ : ∃ z : Nat, x + 1000000000 * 1 = z + 1 + 0 ∧ z < 1000000000 ∧ Hid ((↑x - 1 + 1000000000 : Int) = (z : Int)) := ⟨((↑x - 1 + 1000000000 : Int)).toNat, by omega, by omega, by rw [Hid]; omega⟩
            have HN := hid (hP.out.next (z := z) (c' := 1) (by rw [getD_of HX.out, getD_none (by rw [HB.out]; omega)]; omega) hz1' (by omega))
            clear hz0' hz1'
            have q1 : decide ((x : Int) - 1 < 0) = true := by simp <;> omega
            clear hneg
            go_wp2_with (at_builtin; refine wpList_append_own _ rfl _ _ 69 rfl w.heap.size 3 i0 (.int .i64 0) 1 8 Tryz.underlying69 hi hz0 hz1 hz2 rfl (by decide) _ s.length _ rfl (hO.out.alloc _) ⟨wr.heap.size, 0, none⟩ 1 1 [.int .i64 ((↑x - 1 + 1000000000 : Int))] rfl rfl (cell_one_new wr (.int .i64 ((↑x - 1 + 1000000000 : Int))) 3) (by simp [Value.oneCell']) (by unfold maxLen; omega) (by omega) (by have := hB.out.size; simp; omega) ?_; intro v' w3 hown3 hgrow3 _; have HO3 := hid hown3; have HG3 := hid hgrow3; clear hown3 hgrow3)
            rw [hzI.out] at HO3
            obtain ⟨n1, n2⟩ := own_next hO.out hB.out HO3.out HG3.out
            have N1 := hid n1; have N2 := hid n2; clear n1 n2 HO3 HG3
            obtain ⟨a3, k3, rfl⟩ := owns_ex N1.out
            go_wp2_with fail
            go_roundw
            case rel => exact ⟨s ++ [z], 1, _, by simp, rfl, by simp, by omega, by simp <;> omega, HN, N1, N2⟩
            case measure => simp [intOf] <;> omega
          · obtain ⟨z, hz0', hz1', hzI⟩ : ∃ z : Nat, x + 1000000000 * 0 = z + 1 + 0 ∧ z < 1000000000 ∧ Hid ((↑x - 1 : Int) = (z : Int)) := ⟨((↑x - 1 : Int)).toNat, by omega, by omega, by rw [Hid]; omega⟩
            have HN := hid (hP.out.next (z := z) (c' := 0) (by rw [getD_of HX.out, getD_none (by rw [HB.out]; omega)]; omega) hz1' (by omega))
            clear hz0' hz1'
            have q1 : decide ((x : Int) - 1 < 0) = false := by simp <;> omega
            clear hneg
            go_wp2_with (at_builtin; refine wpList_append_own _ rfl _ _ 69 rfl w.heap.size 3 i0 (.int .i64 0) 1 8 Tryz.underlying69 hi hz0 hz1 hz2 rfl (by decide) _ s.length _ rfl (hO.out.alloc _) ⟨wr.heap.size, 0, none⟩ 1 1 [.int .i64 ((↑x - 1 : Int))] rfl rfl (cell_one_new wr (.int .i64 ((↑x - 1 : Int))) 3) (by simp [Value.oneCell']) (by unfold maxLen; omega) (by omega) (by have := hB.out.size; simp; omega) ?_; intro v' w3 hown3 hgrow3 _; have HO3 := hid hown3; have HG3 := hid hgrow3; clear hown3 hgrow3)
            rw [hzI.out] at HO3
            obtain ⟨n1, n2⟩ := own_next hO.out hB.out HO3.out HG3.out
            have N1 := hid n1; have N2 := hid n2; clear n1 n2 HO3 HG3
            obtain ⟨a3, k3, rfl⟩ := owns_ex N1.out
            go_wp2_with fail
            go_roundw
            case rel => exact ⟨s ++ [z], 0, _, by simp, rfl, by simp, by omega, by simp <;> omega, HN, N1, N2⟩
            case measure => simp [intOf] <;> omega
    · obtain rfl : s.length = n := by omega
      have hv := hid (hP.out.done HA.out.symm HL.out)
      go_wp2_with (go_at_call 102; refine (r1_trim _ _ s hP.out.sm (Row.of_owns hO.out)).mono ?_; rintro e w1 ⟨⟨v1, rfl, hv1⟩, rfl⟩)
      go_ret
      exact ⟨⟨v1, rfl, by rw [← hv.out]; exact hv1⟩, hB.out⟩
end Go.Proofs.YtpheklgnmbpobaaGreatDoor
namespace Go.Proofs.YtpheklgnmbpobaaGreatDoor
open Go.RowKit
set_option linter.unusedVariables false
set_option maxHeartbeats 4000000 in
theorem r1_MinusF (w : World) (v u : Value) (a b : Nat) (ha : IsN .i64 w v a) (hb : IsN .i64 w u b) (hle : b ≤ a) (hla : (limbs a).length ≤ 1000000) :
    Calls Tryz.prog 104 #[v, u] w fun e w' => RetFr w.heap.size .i64 (a - b) e w' ∧ Below w.heap.size w w' := by
  obtain ⟨i0, hi, hz0, hz1, hz2⟩ := info_parts info_int
  obtain ⟨a1, c1, rfl, h1, h2, h3⟩ := ha.openI
  obtain ⟨a2, c2, rfl, k1, k2, k3⟩ := hb.openI
  have H3 := hid h3; have K3 := hid k3; clear h3 k3 ha hb
  have hmn := limbs_length_mono hle
  obtain ⟨n, ea⟩ : ∃ n, (limbs a).length = n := ⟨_, rfl⟩
  obtain ⟨m, eb⟩ : ∃ m, (limbs b).length = m := ⟨_, rfl⟩
  rw [ea] at h1 hla hmn ⊢
  rw [eb] at k1 hmn ⊢
  have HA := hid ea; have HB := hid eb; have HL := hid hle
  clear ea eb hle
  go_enter Tryz.func104, Tryz.ntmps104
  go_wp2_with fail
  go_loopw [5, 6, 7, 8] (fun o cc i nn wr => ∃ (s : List Nat) (c : Nat) (C : Int), i = .int .i64 s.length ∧ cc = .int .i64 C ∧ C = (c : Int) ∧ c ≤ 1 ∧ s.length ≤ n ∧ Hid (MinusI a b s c) ∧ Hid (wr.ownsRow w.heap.size 3 1 o s.length (ints .i64 s)) ∧ Hid (Below w.heap.size w wr))
    (fun _ _ i _ _ => n - (intOf i).toNat)
  case atStart => exact ⟨[], 0, 0, rfl, rfl, rfl, by omega, by simp, MinusI.start a b, World.ownsRow_nil _ _ _ _, Below.refl _ _⟩
  case round =>
    obtain ⟨s, c, C, rfl, rfl, hC, hc1, hs1, hP, hO, hB⟩ := hrel
    obtain ⟨ao, co, rfl⟩ := owns_ex hO.out
    by_cases hA : s.length < n
    · obtain ⟨x, hx⟩ : ∃ x, (limbs a)[s.length]? = some x := ⟨_, List.getElem?_eq_getElem (by rw [HA.out]; exact hA)⟩
      obtain ⟨g, og, rfl, hg, hc⟩ := H3.out _ x hx
      have hc' := (hB.out.cell (p := ⟨g, og + s.length, none⟩) hg).trans hc
      have hxl := (sm_limbs a).get hx
      have HX := hid hx; clear hx hc
      by_cases hB' : s.length < m
      · obtain ⟨y, hy⟩ : ∃ y, (limbs b)[s.length]? = some y := ⟨_, List.getElem?_eq_getElem (by rw [HB.out]; exact hB')⟩
        obtain ⟨g', og', rfl, hg', hd⟩ := K3.out _ y hy
        have hd' := (hB.out.cell (p := ⟨g', og' + s.length, none⟩) hg').trans hd
        have hyl := (sm_limbs b).get hy
        have HY := hid hy; clear hy hd
        rcases (show c = 0 ∨ c = 1 by omega) with rfl | rfl
        · obtain rfl : C = 0 := by omega
          clear hC
          by_cases hneg : x < y + 0
          · obtain ⟨z, hz0', hz1', hzI⟩ : ∃ z : Nat, x + 1000000000 * 1 = z + 0 + y ∧ z < 1000000000 ∧ Hid ((↑x - ↑y + 1000000000 : Int) = (z : Int)) := ⟨((↑x - ↑y + 1000000000 : Int)).toNat, by omega, by omega, by rw [Hid]; omega⟩
            have HN := hid (hP.out.next (z := z) (c' := 1) (by rw [getD_of HX.out, getD_of HY.out]; omega) hz1' (by omega))
            clear hz0' hz1'
            have q1 : decide ((x : Int) - (y : Int) < 0) = true := by simp <;> omega
            clear hneg
            go_wp2_with (at_builtin; refine wpList_append_own _ rfl _ _ 69 rfl w.heap.size 3 i0 (.int .i64 0) 1 8 Tryz.underlying69 hi hz0 hz1 hz2 rfl (by decide) _ s.length _ rfl (hO.out.alloc _) ⟨wr.heap.size, 0, none⟩ 1 1 [.int .i64 ((↑x - ↑y + 1000000000 : Int))] rfl rfl (cell_one_new wr (.int .i64 ((↑x - ↑y + 1000000000 : Int))) 3) (by simp [Value.oneCell']) (by unfold maxLen; omega) (by omega) (by have := hB.out.size; simp; omega) ?_; intro v' w3 hown3 hgrow3 _; have HO3 := hid hown3; have HG3 := hid hgrow3; clear hown3 hgrow3)
            rw [hzI.out] at HO3
            obtain ⟨n1, n2⟩ := own_next hO.out hB.out HO3.out HG3.out
            have N1 := hid n1; have N2 := hid n2; clear n1 n2 HO3 HG3
            obtain ⟨a3, k3, rfl⟩ := owns_ex N1.out
            go_wp2_with fail
            go_roundw
            case rel => exact ⟨s ++ [z], 1, _, by simp, rfl, by simp, by omega, by simp <;> omega, HN, N1, N2⟩
            case measure => simp [intOf] <;> omega
          · obtain ⟨z, hz0', hz1', hzI⟩ : ∃ z : Nat, x + 1000000000 * 0 = z + 0 + y ∧ z < 1000000000 ∧ Hid ((↑x - ↑y : Int) = (z : Int)) := ⟨((↑x - ↑y : Int)).toNat, by omega, by omega, by rw [Hid]; omega⟩
            have HN := hid (hP.out.next (z := z) (c' := 0) (by rw [getD_of HX.out, getD_of HY.out]; omega) hz1' (by omega))
            clear hz0' hz1'
            have q1 : decide ((x : Int) - (y : Int) < 0) = false := by simp <;> omega
            clear hneg
            go_wp2_with (at_builtin; refine wpList_append_own _ rfl _ _ 69 rfl w.heap.size 3 i0 (.int .i64 0) 1 8 Tryz.underlying69 hi hz0 hz1 hz2 rfl (by decide) _ s.length _ rfl (hO.out.alloc _) ⟨wr.heap.size, 0, none⟩ 1 1 [.int .i64 ((↑x - ↑y : Int))] rfl rfl (cell_one_new wr (.int .i64 ((↑x - ↑y : Int))) 3) (by simp [Value.oneCell']) (by unfold maxLen; omega) (by omega) (by have := hB.out.size; simp; omega) ?_; intro v' w3 hown3 hgrow3 _; have HO3 := hid hown3; have HG3 := hid hgrow3; clear hown3 hgrow3)
            rw [hzI.out] at HO3
            obtain ⟨n1, n2⟩ := own_next hO.out hB.out HO3.out HG3.out
            have N1 := hid n1; have N2 := hid n2; clear n1 n2 HO3 HG3
            obtain ⟨a3, k3, rfl⟩ := owns_ex N1.out
            go_wp2_with fail
            go_roundw
            case rel => exact ⟨s ++ [z], 0, _, by simp, rfl, by simp, by omega, by simp <;> omega, HN, N1, N2⟩
            case measure => simp [intOf] <;> omega
        · obtain rfl : C = 1 := by omega
          clear hC
          by_cases hneg : x < y + 1
          · obtain ⟨z, hz0', hz1', hzI⟩ : ∃ z : Nat, x + 1000000000 * 1 = z + 1 + y ∧ z < 1000000000 ∧ Hid ((↑x - 1 - ↑y + 1000000000 : Int) = (z : Int)) := ⟨((↑x - 1 - ↑y + 1000000000 : Int)).toNat, by omega, by omega, by rw [Hid]; omega⟩
            have HN := hid (hP.out.next (z := z) (c' := 1) (by rw [getD_of HX.out, getD_of HY.out]; omega) hz1' (by omega))
            clear hz0' hz1'
            have q1 : decide ((x : Int) - 1 - (y : Int) < 0) = true := by simp <;> omega
            clear hneg
            go_wp2_with (at_builtin; refine wpList_append_own _ rfl _ _ 69 rfl w.heap.size 3 i0 (.int .i64 0) 1 8 Tryz.underlying69 hi hz0 hz1 hz2 rfl (by decide) _ s.length _ rfl (hO.out.alloc _) ⟨wr.heap.size, 0, none⟩ 1 1 [.int .i64 ((↑x - 1 - ↑y + 1000000000 : Int))] rfl rfl (cell_one_new wr (.int .i64 ((↑x - 1 - ↑y + 1000000000 : Int))) 3) (by simp [Value.oneCell']) (by unfold maxLen; omega) (by omega) (by have := hB.out.size; simp; omega) ?_; intro v' w3 hown3 hgrow3 _; have HO3 := hid hown3; have HG3 := hid hgrow3; clear hown3 hgrow3)
            rw [hzI.out] at HO3
            obtain ⟨n1, n2⟩ := own_next hO.out hB.out HO3.out HG3.out
            have N1 := hid n1; have N2 := hid n2; clear n1 n2 HO3 HG3
            obtain ⟨a3, k3, rfl⟩ := owns_ex N1.out
            go_wp2_with fail
            go_roundw
            case rel => exact ⟨s ++ [z], 1, _, by simp, rfl, by simp, by omega, by simp <;> omega, HN, N1, N2⟩
            case measure => simp [intOf] <;> omega
          · obtain ⟨z, hz0', hz1', hzI⟩ : ∃ z : Nat, x + 1000000000 * 0 = z + 1 + y ∧ z < 1000000000 ∧ Hid ((↑x - 1 - ↑y : Int) = (z : Int)) := ⟨((↑x - 1 - ↑y : Int)).toNat, by omega, by omega, by rw [Hid]; omega⟩
            have HN := hid (hP.out.next (z := z) (c' := 0) (by rw [getD_of HX.out, getD_of HY.out]; omega) hz1' (by omega))
            clear hz0' hz1'
            have q1 : decide ((x : Int) - 1 - (y : Int) < 0) = false := by simp <;> omega
            clear hneg
            go_wp2_with (at_builtin; refine wpList_append_own _ rfl _ _ 69 rfl w.heap.size 3 i0 (.int .i64 0) 1 8 Tryz.underlying69 hi hz0 hz1 hz2 rfl (by decide) _ s.length _ rfl (hO.out.alloc _) ⟨wr.heap.size, 0, none⟩ 1 1 [.int .i64 ((↑x - 1 - ↑y : Int))] rfl rfl (cell_one_new wr (.int .i64 ((↑x - 1 - ↑y : Int))) 3) (by simp [Value.oneCell']) (by unfold maxLen; omega) (by omega) (by have := hB.out.size; simp; omega) ?_; intro v' w3 hown3 hgrow3 _; have HO3 := hid hown3; have HG3 := hid hgrow3; clear hown3 hgrow3)
            rw [hzI.out] at HO3
            obtain ⟨n1, n2⟩ := own_next hO.out hB.out HO3.out HG3.out
            have N1 := hid n1; have N2 := hid n2; clear n1 n2 HO3 HG3
            obtain ⟨a3, k3, rfl⟩ := owns_ex N1.out
            go_wp2_with fail
            go_roundw
            case rel => exact ⟨s ++ [z], 0, _, by simp, rfl, by simp, by omega, by simp <;> omega, HN, N1, N2⟩
            case measure => simp [intOf] <;> omega
      · skip
        rcases (show c = 0 ∨ c = 1 by omega) with rfl | rfl
        · obtain rfl : C = 0 := by omega
          clear hC
          by_cases hneg : x < 0 + 0
          · omega
          · obtain ⟨z, hz0', hz1', hzI⟩ : ∃ z : Nat, x + 1000000000 * 0 = z + 0 + 0 ∧ z < 1000000000 ∧ Hid ((↑x : Int) = (z : Int)) := ⟨((↑x : Int)).toNat, by omega, by omega, by rw [Hid]; omega⟩
            have HN := hid (hP.out.next (z := z) (c' := 0) (by rw [getD_of HX.out, getD_none (by rw [HB.out]; omega)]; omega) hz1' (by omega))
            clear hz0' hz1'
            have q1 : decide ((x : Int) < 0) = false := by simp <;> omega
            clear hneg
            go_wp2_with (at_builtin; refine wpList_append_own _ rfl _ _ 69 rfl w.heap.size 3 i0 (.int .i64 0) 1 8 Tryz.underlying69 hi hz0 hz1 hz2 rfl (by decide) _ s.length _ rfl (hO.out.alloc _) ⟨wr.heap.size, 0, none⟩ 1 1 [.int .i64 ((↑x : Int))] rfl rfl (cell_one_new wr (.int .i64 ((↑x : Int))) 3) (by simp [Value.oneCell']) (by unfold maxLen; omega) (by omega) (by have := hB.out.size; simp; omega) ?_; intro v' w3 hown3 hgrow3 _; have HO3 := hid hown3; have HG3 := hid hgrow3; clear hown3 hgrow3)
            rw [hzI.out] at HO3
            obtain ⟨n1, n2⟩ := own_next hO.out hB.out HO3.out HG3.out
            have N1 := hid n1; have N2 := hid n2; clear n1 n2 HO3 HG3
            obtain ⟨a3, k3, rfl⟩ := owns_ex N1.out
            go_wp2_with fail
            go_roundw
            case rel => exact ⟨s ++ [z], 0, _, by simp, rfl, by simp, by omega, by simp <;> omega, HN, N1, N2⟩
            case measure => simp [intOf] <;> omega
        · obtain rfl : C = 1 := by omega
          clear hC
          by_cases hneg : x < 0 + 1
          · obtain ⟨z, hz0', hz1', hzI⟩ : ∃ z : Nat, x + 1000000000 * 1 = z + 1 + 0 ∧ z < 1000000000 ∧ Hid ((↑x - 1 + 1000000000 : Int) = (z : Int)) := ⟨((↑x - 1 + 1000000000 : Int)).toNat, by omega, by omega, by rw [Hid]; omega⟩
            have HN := hid (hP.out.next (z := z) (c' := 1) (by rw [getD_of HX.out, getD_none (by rw [HB.out]; omega)]; omega) hz1' (by omega))
            clear hz0' hz1'
            have q1 : decide ((x : Int) - 1 < 0) = true := by simp <;> omega
            clear hneg
            go_wp2_with (at_builtin; refine wpList_append_own _ rfl _ _ 69 rfl w.heap.size 3 i0 (.int .i64 0) 1 8 Tryz.underlying69 hi hz0 hz1 hz2 rfl (by decide) _ s.length _ rfl (hO.out.alloc _) ⟨wr.heap.size, 0, none⟩ 1 1 [.int .i64 ((↑x - 1 + 1000000000 : Int))] rfl rfl (cell_one_new wr (.int .i64 ((↑x - 1 + 1000000000 : Int))) 3) (by simp [Value.oneCell']) (by unfold maxLen; omega) (by omega) (by have := hB.out.size; simp; omega) ?_; intro v' w3 hown3 hgrow3 _; have HO3 := hid hown3; have HG3 := hid hgrow3; clear hown3 hgrow3)
            rw [hzI.out] at HO3
            obtain ⟨n1, n2⟩ := own_next hO.out hB.out HO3.out HG3.out
            have N1 := hid n1; have N2 := hid n2; clear n1 n2 HO3 HG3
            obtain ⟨a3, k3, rfl⟩ := owns_ex N1.out
            go_wp2_with fail
            go_roundw
            case rel => exact ⟨s ++ [z], 1, _, by simp, rfl, by simp, by omega, by simp <;> omega, HN, N1, N2⟩
            case measure => simp [intOf] <;> omega
          · obtain ⟨z, hz0', hz1', hzI⟩ : ∃ z : Nat, x + 1000000000 * 0 = z + 1 + 0 ∧ z < 1000000000 ∧ Hid ((↑x - 1 : Int) = (z : Int)) := ⟨((↑x - 1 : Int)).toNat, by omega, by omega, by rw [Hid]; omega⟩
            have HN := hid (hP.out.next (z := z) (c' := 0) (by rw [getD_of HX.out, getD_none (by rw [HB.out]; omega)]; omega) hz1' (by omega))
            clear hz0' hz1'
            have q1 : decide ((x : Int) - 1 < 0) = false := by simp <;> omega
            clear hneg
            go_wp2_with (at_builtin; refine wpList_append_own _ rfl _ _ 69 rfl w.heap.size 3 i0 (.int .i64 0) 1 8 Tryz.underlying69 hi hz0 hz1 hz2 rfl (by decide) _ s.length _ rfl (hO.out.alloc _) ⟨wr.heap.size, 0, none⟩ 1 1 [.int .i64 ((↑x - 1 : Int))] rfl rfl (cell_one_new wr (.int .i64 ((↑x - 1 : Int))) 3) (by simp [Value.oneCell']) (by unfold maxLen; omega) (by omega) (by have := hB.out.size; simp; omega) ?_; intro v' w3 hown3 hgrow3 _; have HO3 := hid hown3; have HG3 := hid hgrow3; clear hown3 hgrow3)
            rw [hzI.out] at HO3
            obtain ⟨n1, n2⟩ := own_next hO.out hB.out HO3.out HG3.out
            have N1 := hid n1; have N2 := hid n2; clear n1 n2 HO3 HG3
            obtain ⟨a3, k3, rfl⟩ := owns_ex N1.out
            go_wp2_with fail
            go_roundw
            case rel => exact ⟨s ++ [z], 0, _, by simp, rfl, by simp, by omega, by simp <;> omega, HN, N1, N2⟩
            case measure => simp [intOf] <;> omega
    · obtain rfl : s.length = n := by omega
      have hv := hid (hP.out.done HA.out.symm HL.out)
      go_wp2_with (go_at_call 102; refine (r1_trim_at _ _ _ s hP.out.sm (Row.of_owns hO.out)).mono ?_; rintro e w1 ⟨⟨m1, rfl, hv1⟩, rfl⟩)
      go_ret
      exact ⟨⟨_, rfl, by rw [← hv.out]; exact hv1, fun g hg => (hO.out.lt g (by cases ao <;> exact hg)).1⟩, hB.out⟩
end Go.Proofs.YtpheklgnmbpobaaGreatDoor
namespace Go.Proofs.YtpheklgnmbpobaaGreatDoor
open Go.RowKit Go.Shelf
open Go.Lib (decDigits nDigits)
set_option linter.unusedVariables false
set_option linter.unusedSimpArgs false
theorem r5_natural (w : World) (n : Nat) (h : n ≤ 9223372036854775807) : Calls Tryz.prog 154 #[.int .i64 n] w fun e w' => RetN .i64 n e w' ∧ Below w.heap.size w w' := by
  have hd := hid (show nDigits n ≤ 9000 from Nat.le_trans (nDigits_le (k := 19) (by omega) (by omega)) (by omega))
  go_enter Tryz.func154, Tryz.ntmps154
  go_wp2_with fail
  refine (r2_Int _ n h).mono ?_; rintro e w1 ⟨rfl, rfl⟩
  go_wp2_with fail
  refine (r1_Read_num _ n hd.out).mono ?_; rintro e w2 ⟨⟨v2, rfl, hv2⟩, hb2⟩
  have V2 := hid hv2; have B2 := hid hb2; clear hv2 hb2
  go_wp2_with fail
  go_ret
  exact ⟨⟨_, rfl, V2.out⟩, B2.out⟩
end Go.Proofs.YtpheklgnmbpobaaGreatDoor
namespace Go.Proofs.YtpheklgnmbpobaaGreatDoor
open Go.RowKit Go.Shelf
set_option linter.unusedVariables false
set_option linter.unusedSimpArgs false
theorem own_below {w0 w w1 w3 : World} {t : TypeId} {v : Value} {m : Nat} {vs : List Value} {o : Obj} (h : w.ownsRow w0.heap.size t 1 v m vs) (h0 : Below w0.heap.size w0 w) (hb : Below w.heap.size w w1) (hg : (w1.alloc o).grownBy w3 v.ownBlock) : Below w0.heap.size w0 w3 := by
  have h1 : Below w0.heap.size w0 (w1.alloc o) := (h0.trans (hb.mono h0.size)).alloc (h0.trans (hb.mono h0.size)).size _
  refine h1.trans ⟨hg.os, hg.tape, hg.output, hg.size, fun j hj => hg.block j (Nat.lt_of_lt_of_le hj h1.size) fun e => ?_⟩
  have := (h.lt j e.symm).1
  omega
theorem isN_other {k : IntKind} {w : World} {v : Value} {n : Nat} {a : Addr} (h : IsN k w v n) (hne : n = 0 ∨ v.ownBlock ≠ some a.block) (x : Value) : IsN k (w.setCell a x) v n := by
  obtain ⟨a', c, rfl, h1, h2, h3⟩ := h.ex
  rw [ints_length] at *
  refine ⟨a', c, by rw [ints_length], by rw [ints_length]; exact h1, h2, fun i y hy => ?_⟩
  obtain ⟨g, o, rfl, hg', hc⟩ := h3 i y hy
  rcases hne with rfl | hne
  · rw [limbs_zero] at hy; simp [ints] at hy
  · refine ⟨g, o, rfl, by simpa [World.setCell] using hg', ?_⟩
    have hb : g ≠ a.block := fun e => hne (by rw [← e]; rfl)
    rw [← hc]
    unfold World.setCell World.cell?
    simp [Array.getElem?_modify, Ne.symm hb]
structure NTab (B : Nat) (w : World) (g m c : Nat) (f : Nat → Nat) : Prop where
  ex : ∃ vs, w.ownsRow B 69 1 (.slice (some ⟨g, 0, none⟩) m c) m vs ∧ ∀ j x, vs[j]? = some x → IsN .i64 w x (f j) ∧ (f j = 0 ∨ ∀ g', x.ownBlock = some g' → B ≤ g' ∧ g' ≠ g)
theorem NTab.call {B : Nat} {w w' : World} {g m c : Nat} {f : Nat → Nat} (h : NTab B w g m c f) (hb : Below w.heap.size w w') : NTab B w' g m c f := by
  obtain ⟨vs, h1, h2⟩ := h.ex
  exact ⟨vs, h1.kept (below_grown hb none) (by simp [Value.ownBlock]), fun j x hx => ⟨(h2 j x hx).1.call hb, (h2 j x hx).2⟩⟩
theorem NTab.at {B : Nat} {w : World} {g m c : Nat} {f : Nat → Nat} (h : NTab B w g m c f) {i : Nat} (hi : i < m) : ∃ x, w.cell? ⟨g, i, none⟩ = some x ∧ IsN .i64 w x (f i) ∧ (f i = 0 ∨ ∀ g', x.ownBlock = some g' → B ≤ g' ∧ g' ≠ g) := by
  obtain ⟨vs, h1, h2⟩ := h.ex
  have hl : vs.length = m := by have := h1.1; omega
  obtain ⟨x, hx⟩ : ∃ x, vs[i]? = some x := ⟨_, List.getElem?_eq_getElem (by omega)⟩
  exact ⟨x, (own_slot h1).2.2.2.1 i x hx, (h2 i x hx).1, (h2 i x hx).2⟩
theorem NTab.row {B : Nat} {w : World} {g m c : Nat} {f : Nat → Nat} (h : NTab B w g m c f) : NRow w (.slice (some ⟨g, 0, none⟩) m c) m f := by
  obtain ⟨vs, h1, h2⟩ := h.ex
  exact ⟨vs, by have := h1.1; omega, Row.of_owns h1, fun j x hx => (h2 j x hx).1⟩
theorem NTab.fn {B : Nat} {w : World} {g m c : Nat} {f f' : Nat → Nat} (h : NTab B w g m c f) (e : ∀ i, i < m → f i = f' i) : NTab B w g m c f' := by
  obtain ⟨vs, h1, h2⟩ := h.ex
  have hl : vs.length = m := by have := h1.1; omega
  refine ⟨vs, h1, fun j x hx => ?_⟩
  rw [← e j (by have := (List.getElem?_eq_some_iff.1 hx).1; omega)]
  exact h2 j x hx
theorem NTab.put {B : Nat} {w : World} {g m c n : Nat} {f : Nat → Nat} {x : Value} (h : NTab B w g m c f) (i : Nat) (hx : IsN .i64 w x n) (hne : n = 0 ∨ ∀ g', x.ownBlock = some g' → B ≤ g' ∧ g' ≠ g) : NTab B (w.setCell ⟨g, i, none⟩ x) g m c (fun j => if j = i then n else f j) := by
  obtain ⟨vs, h1, h2⟩ := h.ex
  refine ⟨vs.set i x, own_set h1 i x, fun j y hy => ?_⟩
  rw [List.getElem?_set] at hy
  by_cases hj : i = j
  · subst hj
    rw [if_pos rfl] at hy
    split at hy
    · obtain rfl := Option.some.inj hy
      rw [if_pos rfl]
      refine ⟨isN_other hx (hne.imp id fun e e' => (e _ e').2 rfl) _, hne⟩
    · cases hy
  · rw [if_neg hj] at hy
    rw [if_neg (fun e => hj e.symm)]
    obtain ⟨k1, k2⟩ := h2 j y hy
    exact ⟨isN_other k1 (k2.imp id fun e e' => (e _ e').2 rfl) _, k2⟩
theorem NTab.other {B : Nat} {w : World} {g m c : Nat} {f : Nat → Nat} (h : NTab B w g m c f) {a : Addr} (ha : a.block < B) (x : Value) : NTab B (w.setCell a x) g m c f := by
  obtain ⟨vs, h1, h2⟩ := h.ex
  refine ⟨vs, ?_, fun j y hy => ?_⟩
  · refine ⟨h1.1, ?_⟩
    rcases h1.2 with h0 | ⟨g', cap, cur, e, k1, k2, k3⟩
    · exact .inl h0
    · refine .inr ⟨g', cap, cur, e, k1, ?_, k3⟩
      have hg : g' ≠ a.block := by omega
      rw [← k2]
      unfold World.setCell
      simp [Array.getElem?_modify, Ne.symm hg]
  · obtain ⟨k1, k2⟩ := h2 j y hy
    exact ⟨isN_other k1 (k2.imp id fun e e' => by have := (e _ e').1; omega) _, k2⟩
theorem NTab.mono {B B' : Nat} {w : World} {g m c : Nat} {f : Nat → Nat} (h : NTab B w g m c f) (hB : B' ≤ B) : NTab B' w g m c f := by
  obtain ⟨vs, h1, h2⟩ := h.ex
  refine ⟨vs, ⟨h1.1, ?_⟩, fun j y hy => ?_⟩
  · rcases h1.2 with h0 | ⟨g', cap, cur, e, k1, k2, k3⟩
    · exact .inl h0
    · exact .inr ⟨g', cap, cur, e, by omega, k2, k3⟩
  · obtain ⟨k1, k2⟩ := h2 j y hy
    exact ⟨k1, k2.imp id fun e g' hg => ⟨by have := (e g' hg).1; omega, (e g' hg).2⟩⟩
theorem NTab.of {B : Nat} {w : World} {v : Value} {m : Nat} (h : NOwn B w v (m + 1) (fun _ => 0)) : ∃ g c, v = .slice (some ⟨g, 0, none⟩) (m + 1) c ∧ NTab B w g (m + 1) c (fun _ => 0) := by
  obtain ⟨vs, h1, h2⟩ := id h
  obtain ⟨g, c, rfl, k1, k2⟩ := h1.form (Nat.succ_pos m)
  exact ⟨g, c, rfl, vs, h1, fun j x hx => ⟨(h2 j x hx).1, .inl rfl⟩⟩
end Go.Proofs.YtpheklgnmbpobaaGreatDoor
namespace Go.Proofs.YtpheklgnmbpobaaGreatDoor
open Go.RowKit Go.Shelf
open Go.Lib (decDigits nDigits)
set_option linter.unusedVariables false
set_option linter.unusedSimpArgs false
theorem ord_zero (x : Nat) : (ordN x 0 != 0) = decide (x ≠ 0) := by
  rcases Nat.eq_zero_or_pos x with rfl | h
  · rw [ordN_eq]; rfl
  · rw [ordN_gt h]; simp; omega
set_option maxRecDepth 100000 in
set_option maxHeartbeats 4000000 in
theorem r5_counts (w : World) (v : Value) (ws : List Nat) (n : Nat) (hws : WsOk ws) (hS : 0 < ws.sum) (hv : Row w v (strs (ws.map numB))) (hn : n ≤ 256) :
    Calls Tryz.prog 117 #[v, .int .i64 (n : Nat)] w fun e w' => (∃ u, e = .returned u ∧ NRow w' u ws.length (cnt ws (2 ^ n))) ∧ Below w.heap.size w w' := by
  obtain ⟨i0, hi, hz0, hz1, hz2⟩ := info_parts info_tl
  have RS := hid (r5_Sums w v ws hws hv)
  have RT := fun V => hid (r3_Two V n (by omega))
  have HWS := hid hws
  obtain ⟨a, c, rfl, q1, q2, -⟩ := hv.openS
  obtain ⟨N, hN⟩ : ∃ N, (ws.map numB).length = N := ⟨_, rfl⟩
  have HN := hid (show ws.length = N from by rw [← hN]; simp)
  have hN64 : N ≤ 64 := by rw [← HN.out]; exact hws.len
  rw [hN] at RS q1 ⊢
  rw [HN.out] at RS ⊢
  obtain ⟨t, ht⟩ : ∃ t, 2 ^ n = t := ⟨_, rfl⟩
  rw [ht] at RT ⊢
  have tle : t ≤ 2 ^ 256 := by rw [← ht]; exact Nat.pow_le_pow_right (by omega) (by omega)
  have big : ∀ x, x ≤ 2 ^ 256 → nDigits x ≤ 78 := fun x hx => nDigits_le (by omega) (Nat.lt_of_le_of_lt hx (by decide))
  have LT : Hid ((limbs t).length ≤ 1000000) := num_limbs (by have := big t tle; omega)
  have LP : Hid (∀ i, (limbs (pre ws i)).length ≤ 1000000) := fun i => num_limbs (by have := hws.pre i; omega)
  have LPT : Hid (∀ i, (limbs (pre ws i * t)).length ≤ 1000000) := fun i => num_limbs (by have := nd_mul (hws.pre i) (big t tle) (by omega); omega)
  have LF : Hid (∀ i, (limbs (cntF ws t i)).length ≤ 1000000) := fun i => num_limbs (by have := big _ (Nat.le_trans (cntF_le t (i := i) hS) tle); omega)
  have LE : Hid (∀ i, (limbs (cntE ws t i)).length ≤ 1000000) := fun i => num_limbs (by have := big _ (Nat.le_trans (cntE_fit t i hS) tle); omega)
  have LQ : Hid (∀ i, (limbs (pre ws i * t / ws.sum)).length ≤ 1000000) := fun i => Nat.le_trans (limbs_length_mono (Nat.div_le_self _ _)) (LPT.out i)
  have L1 : Hid ((limbs 1).length ≤ 1000000) := by show _ ≤ _; rw [limbs_one]; decide
  have HF : Hid (∀ i, cntF ws t i = pre ws i * t / ws.sum + (if pre ws i * t % ws.sum ≠ 0 then 1 else 0)) := fun i => rfl
  have HE : Hid (∀ i, pre ws (i + 1) * t / ws.sum = cntE ws t i) := fun i => rfl
  have HC : Hid (∀ i, cnt ws t i = cntE ws t i - cntF ws t i) := fun i => rfl
  have hall : pre ws N = ws.sum := pre_all (by rw [HN.out]; omega)
  have HALL := hid hall
  have HS := hid hS
  obtain ⟨S, hSS⟩ : ∃ S, ws.sum = S := ⟨_, rfl⟩
  rw [hSS] at HF HE HALL HS LQ
  clear hws hS hv hN ht tle big hall hSS
  go_enter Tryz.func117, Tryz.ntmps117
  go_wp2_with fail
  refine RS.out.mono ?_; rintro e w1 ⟨⟨v1, rfl, hv1⟩, hb1⟩
  have V1 := hid hv1; have B1 := hid hb1
  obtain ⟨a1, c1, rfl, r1, r2, r3⟩ := hv1.open
  obtain ⟨g, o, y0, rfl, hg, hc0, hy0⟩ := r3 N (by omega)
  rw [HALL.out] at hy0
  have Y0 := hid hy0
  have HCell : Hid (∀ i, i ≤ N → ∃ y, w1.cell? ⟨g, o + i, none⟩ = some y ∧ IsN .i64 w1 y (pre ws i)) := fun i hi => by
    obtain ⟨g', o', y, e, -, h1, h2⟩ := r3 i (by omega)
    simp only [Option.some.injEq, Addr.mk.injEq] at e
    obtain ⟨rfl, rfl, -⟩ := e
    exact ⟨y, h1, h2⟩
  have KK : Hid (∀ w', Below w1.heap.size w1 w' → w'.cell? ⟨g, o + N, none⟩ = some y0) := fun w' hb => (hb.cell (p := ⟨g, o + N, none⟩) hg).trans hc0
  have b1 : (0 : Int) ≤ (N : Int) := by omega
  have b2 : (N : Int) < (N : Int) + 1 := by omega
  have b3 : (N : Int) < ((N + 1 : Nat) : Int) := by omega
  clear hv1 hb1 hy0 r3 hc0 RS
  go_wp2_with fail
  go_region_held3 (fun w' => w'.cell? ⟨g, o + N, none⟩ = some y0)
    (first
      | exact KK.out _ (Below.refl _ _).drew
      | exact KK.out _ B2.out)
    (first
      | (go_at_call 111; refine (RT _).out.mono ?_; rintro e w2 ⟨⟨v2, rfl, hv2⟩, hb2⟩; have V2 := hid hv2; have B2 := hid (show Below w1.heap.size w1 w2 from (Below.refl _ _).drew.trans hb2); clear hv2 hb2))
  go_wp2_with fail
  go_loopw [8, 9] (fun o ii wr => ∃ i : Nat, ii = .int .i64 i ∧ i ≤ N ∧ Hid (NOwn w2.heap.size wr o i (cnt ws t)) ∧ Hid (Below w2.heap.size w2 wr)) (fun o ii wr => N - (intOf ii).toNat)
  case atStart => exact ⟨0, rfl, Nat.zero_le _, NOwn.nil _ _ _, Below.refl _ _⟩
  case round =>
    obtain ⟨i, rfl, hi', hO, hB⟩ := hrel
    obtain ⟨ao0, co0, e0, -, -, -⟩ := hO.out.row.open
    subst e0
    have wi : IntKind.i64.wrap ((i : Int) + 1) = ((i + 1 : Nat) : Int) := by rw [IntWalk.i64_in _ ⟨by omega, by omega⟩]; omega
    have B12 := hid (bnext B1.out B2.out)
    have BW := hid (bnext B12.out hB.out)
    by_cases hlt : i < N
    · obtain ⟨y, hc, hy⟩ := HCell.out i (by omega)
      obtain ⟨y', hc', hy'⟩ := HCell.out (i + 1) (by omega)
      have BB := hid (bnext B2.out hB.out)
      have hcw := (BB.out.cell (p := ⟨g, o + i, none⟩) hg).trans hc
      have CW' := hid fun W (h : Below w1.heap.size w1 W) => (h.cell (p := ⟨g, o + (i + 1), none⟩) hg).trans hc'
      have HY := hid hy; have HY' := hid hy'
      have c1 : (0 : Int) ≤ (i : Int) := by omega
      have c2 : (i : Int) < (N : Int) + 1 := by omega
      have c3 : (i : Int) + 1 < (N : Int) + 1 := by omega
      have c4 : (0 : Int) ≤ (i : Int) + 1 := by omega
      have c5 : (i : Int) < (N : Int) := by omega
      clear hc hc' hy hy'
      go_wp2_with fail
      refine (r1_Times _ _ _ _ _ (HY.out.call BB.out) (V2.out.call hB.out) (LP.out i) LT.out).mono ?_; rintro e wa ⟨⟨va, rfl, hva⟩, hba⟩
      have VA := hid hva; have BA := hid (bnext hB.out hba); have BRA := hid hba; clear hva hba hcw
      go_wp2_with fail
      refine (r1_Divide _ _ _ _ _ VA.out (Y0.out.call (bnext B2.out BA.out)) HS.out (LPT.out i)).mono ?_; rintro e wb ⟨⟨vb, ub, rfl, hvb, hub⟩, hbb⟩
      have VB := hid hvb; have UB := hid hub; have BB2 := hid (bnext BA.out hbb); have BRB := hid (bnext BRA.out hbb); clear hvb hub hbb
      go_wp2_with fail
      refine (r5_natural _ 0 (by omega)).mono ?_; rintro e wz ⟨⟨vz, rfl, hvz⟩, hbz⟩
      have VZ := hid hvz; have BZ := hid (bnext BB2.out hbz); have BRZ := hid (bnext BRB.out hbz); have UB2 := hid (UB.out.call hbz); have VB2 := hid (VB.out.call hbz); clear hvz hbz
      go_wp2_with fail
      refine (r1_Order _ _ _ _ _ UB2.out VZ.out).mono ?_; rintro e wo ⟨rfl, hbo⟩
      have BO := hid (bnext BZ.out hbo); have BRO := hid (bnext BRZ.out hbo); have VB3 := hid (VB2.out.call hbo); clear hbo
      obtain ⟨z, hz⟩ : ∃ z, ordN (pre ws i * t % S) 0 = z := ⟨_, rfl⟩
      have D1 := hid (show (z != 0) = decide (pre ws i * t % S ≠ 0) from by rw [← hz]; exact ord_zero _)
      rw [hz]
      clear hz
      cases hd1 : (z != 0)
      · have HFX : Hid (pre ws i * t / S = cntF ws t i) := by
          have := D1.out
          rw [hd1] at this
          have := of_decide_eq_false this.symm
          show _ = _
          rw [HF.out i, if_neg this, Nat.add_zero]
        have HX := hid (VB3.out.cast HFX.out)
        have BX := BO; have BRX := BRO
        have hcx := CW'.out _ (bnext B2.out BX.out)
        go_wp2_with fail
        refine (r1_Times _ _ _ _ _ (HY'.out.call (bnext B2.out BX.out)) (V2.out.call BX.out) (LP.out (i + 1)) LT.out).mono ?_; rintro e wc ⟨⟨vc, rfl, hvc⟩, hbc⟩
        have VC := hid hvc; have BC := hid (bnext BX.out hbc); have BRC := hid (bnext BRX.out hbc); have BXC := hid hbc; clear hvc hbc hcx
        go_wp2_with fail
        refine (r1_Divide _ _ _ _ _ VC.out (Y0.out.call (bnext B2.out BC.out)) HS.out (LPT.out (i + 1))).mono ?_; rintro e we ⟨⟨vE, uE, rfl, hvE, -⟩, hbe⟩
        rw [HE.out] at hvE
        have VE := hid hvE; have BE := hid (bnext BC.out hbe); have BRE := hid (bnext BRC.out hbe); have BXE0 := hid (bnext BXC.out hbe); clear hvE hbe
        go_wp2_with fail
        refine (r1_Order _ _ _ _ _ VE.out (HX.out.call BXE0.out)).mono ?_; rintro e wf ⟨rfl, hbf⟩
        have BF := hid (bnext BE.out hbf); have BRE := hid (bnext BRE.out hbf); have BXE := hid (bnext BXE0.out hbf); have VE2 := hid (VE.out.call hbf); clear hbf
        obtain ⟨z2, hz2⟩ : ∃ z2, ordN (cntE ws t i) (cntF ws t i) = z2 := ⟨_, rfl⟩
        have D2 := hid (show decide (z2 ≤ 0) = decide (cntE ws t i ≤ cntF ws t i) from by rw [← hz2]; exact pk_le)
        rw [hz2]
        clear hz2
        cases hd2 : decide (z2 ≤ 0)
        · have HLE2 : Hid (cntF ws t i ≤ cntE ws t i) := by
            have := D2.out
            rw [hd2] at this
            have := of_decide_eq_false this.symm
            show _ ≤ _
            omega
          have HCN : Hid (cntE ws t i - cntF ws t i = cnt ws t i) := (HC.out i).symm
          go_wp2_with fail
          refine (r1_MinusF _ _ _ _ _ (VE2.out) (HX.out.call BXE.out) (HLE2.out) (LE.out i)).mono ?_; rintro e wm ⟨⟨vm, rfl, hvm, hfm⟩, hbm⟩
          have hcn := HCN.out
          rw [hcn] at hvm
          obtain ⟨am, cm, rfl, -, -, -⟩ := hvm.openI
          have VM := hid hvm; have BRM := hid (bnext BRE.out hbm); have FM := hid hfm; have BRE2 := hid BRE.out.size
          clear hvm hbm hfm hcn
          obtain ⟨vs, HO0, HO1⟩ := id hO.out
          have HOO := hid HO0; have HO9 := hid HO1
          clear HO0 HO1
          go_wp2_with (at_builtin; refine wpList_append_own_at _ rfl _ _ 92 rfl w2.heap.size 69 i0 (.slice none 0 0) 1 24 Tryz.underlying92 hi hz0 hz1 hz2 rfl (by decide) _ i vs rfl ((HOO.out.kept (below_grown BRM.out none) (by cases ao0 <;> simp [Value.ownBlock])).alloc _) ⟨wm.heap.size, 0, none⟩ 1 1 [.slice am (limbs (cnt ws t i)).length cm] rfl rfl (cell_one_new wm (.slice am (limbs (cnt ws t i)).length cm) 69) (by simp [Value.oneCell']) (by unfold maxLen; omega) (by omega) (by have := hB.out.size; have := BRM.out.size; simp; omega) ?_; intro v' w5 hown hgrow _ hat; have HO5 := hid hown; have HG5 := hid hgrow; have HA5 := hid hat; clear hown hgrow hat)
          have N5 := hid (NOwn.next (f := cnt ws t) HOO.out HO9.out BRM.out VM.out BRE2.out FM.out HO5.out HG5.out HA5.out)
          have B5 := hid (own_below HOO.out hB.out BRM.out HG5.out)
          clear HO5 HG5 HA5
          go_wp2_with fail
          go_roundw
          case rel => exact ⟨i + 1, by go_num, by omega, N5, B5⟩
          case measure => simp [intOf] <;> omega
        · have HCN : Hid (cntF ws t i - cntF ws t i = cnt ws t i) := by
            have := D2.out
            rw [hd2] at this
            have := of_decide_eq_true this.symm
            show _ = _
            rw [HC.out i]
            omega
          go_wp2_with fail
          refine (r1_MinusF _ _ _ _ _ (HX.out.call BXE.out) (HX.out.call BXE.out) (Nat.le_refl _) (LF.out i)).mono ?_; rintro e wm ⟨⟨vm, rfl, hvm, hfm⟩, hbm⟩
          have hcn := HCN.out
          rw [hcn] at hvm
          obtain ⟨am, cm, rfl, -, -, -⟩ := hvm.openI
          have VM := hid hvm; have BRM := hid (bnext BRE.out hbm); have FM := hid hfm; have BRE2 := hid BRE.out.size
          clear hvm hbm hfm hcn
          obtain ⟨vs, HO0, HO1⟩ := id hO.out
          have HOO := hid HO0; have HO9 := hid HO1
          clear HO0 HO1
          go_wp2_with (at_builtin; refine wpList_append_own_at _ rfl _ _ 92 rfl w2.heap.size 69 i0 (.slice none 0 0) 1 24 Tryz.underlying92 hi hz0 hz1 hz2 rfl (by decide) _ i vs rfl ((HOO.out.kept (below_grown BRM.out none) (by cases ao0 <;> simp [Value.ownBlock])).alloc _) ⟨wm.heap.size, 0, none⟩ 1 1 [.slice am (limbs (cnt ws t i)).length cm] rfl rfl (cell_one_new wm (.slice am (limbs (cnt ws t i)).length cm) 69) (by simp [Value.oneCell']) (by unfold maxLen; omega) (by omega) (by have := hB.out.size; have := BRM.out.size; simp; omega) ?_; intro v' w5 hown hgrow _ hat; have HO5 := hid hown; have HG5 := hid hgrow; have HA5 := hid hat; clear hown hgrow hat)
          have N5 := hid (NOwn.next (f := cnt ws t) HOO.out HO9.out BRM.out VM.out BRE2.out FM.out HO5.out HG5.out HA5.out)
          have B5 := hid (own_below HOO.out hB.out BRM.out HG5.out)
          clear HO5 HG5 HA5
          go_wp2_with fail
          go_roundw
          case rel => exact ⟨i + 1, by go_num, by omega, N5, B5⟩
          case measure => simp [intOf] <;> omega
      · have HFX : Hid (pre ws i * t / S + 1 = cntF ws t i) := by
          have := D1.out
          rw [hd1] at this
          have := of_decide_eq_true this.symm
          show _ = _
          rw [HF.out i, if_pos this]
        go_wp2_with fail
        refine (r5_natural _ 1 (by omega)).mono ?_; rintro e wy ⟨⟨vy, rfl, hvy⟩, hby⟩
        have VY := hid hvy; have BY := hid (bnext BO.out hby); have BRY := hid (bnext BRO.out hby); have VB4 := hid (VB3.out.call hby); clear hvy hby
        go_wp2_with fail
        refine (r1_Plus _ _ _ _ _ VB4.out VY.out (LQ.out i) L1.out).mono ?_; rintro e wx ⟨⟨vx, rfl, hvx⟩, hbx⟩
        have HX := hid (hvx.cast HFX.out)
        have BX := hid (bnext BY.out hbx); have BRX := hid (bnext BRY.out hbx); clear hvx hbx
        have hcx := CW'.out _ (bnext B2.out BX.out)
        go_wp2_with fail
        refine (r1_Times _ _ _ _ _ (HY'.out.call (bnext B2.out BX.out)) (V2.out.call BX.out) (LP.out (i + 1)) LT.out).mono ?_; rintro e wc ⟨⟨vc, rfl, hvc⟩, hbc⟩
        have VC := hid hvc; have BC := hid (bnext BX.out hbc); have BRC := hid (bnext BRX.out hbc); have BXC := hid hbc; clear hvc hbc hcx
        go_wp2_with fail
        refine (r1_Divide _ _ _ _ _ VC.out (Y0.out.call (bnext B2.out BC.out)) HS.out (LPT.out (i + 1))).mono ?_; rintro e we ⟨⟨vE, uE, rfl, hvE, -⟩, hbe⟩
        rw [HE.out] at hvE
        have VE := hid hvE; have BE := hid (bnext BC.out hbe); have BRE := hid (bnext BRC.out hbe); have BXE0 := hid (bnext BXC.out hbe); clear hvE hbe
        go_wp2_with fail
        refine (r1_Order _ _ _ _ _ VE.out (HX.out.call BXE0.out)).mono ?_; rintro e wf ⟨rfl, hbf⟩
        have BF := hid (bnext BE.out hbf); have BRE := hid (bnext BRE.out hbf); have BXE := hid (bnext BXE0.out hbf); have VE2 := hid (VE.out.call hbf); clear hbf
        obtain ⟨z2, hz2⟩ : ∃ z2, ordN (cntE ws t i) (cntF ws t i) = z2 := ⟨_, rfl⟩
        have D2 := hid (show decide (z2 ≤ 0) = decide (cntE ws t i ≤ cntF ws t i) from by rw [← hz2]; exact pk_le)
        rw [hz2]
        clear hz2
        cases hd2 : decide (z2 ≤ 0)
        · have HLE2 : Hid (cntF ws t i ≤ cntE ws t i) := by
            have := D2.out
            rw [hd2] at this
            have := of_decide_eq_false this.symm
            show _ ≤ _
            omega
          have HCN : Hid (cntE ws t i - cntF ws t i = cnt ws t i) := (HC.out i).symm
          go_wp2_with fail
          refine (r1_MinusF _ _ _ _ _ (VE2.out) (HX.out.call BXE.out) (HLE2.out) (LE.out i)).mono ?_; rintro e wm ⟨⟨vm, rfl, hvm, hfm⟩, hbm⟩
          have hcn := HCN.out
          rw [hcn] at hvm
          obtain ⟨am, cm, rfl, -, -, -⟩ := hvm.openI
          have VM := hid hvm; have BRM := hid (bnext BRE.out hbm); have FM := hid hfm; have BRE2 := hid BRE.out.size
          clear hvm hbm hfm hcn
          obtain ⟨vs, HO0, HO1⟩ := id hO.out
          have HOO := hid HO0; have HO9 := hid HO1
          clear HO0 HO1
          go_wp2_with (at_builtin; refine wpList_append_own_at _ rfl _ _ 92 rfl w2.heap.size 69 i0 (.slice none 0 0) 1 24 Tryz.underlying92 hi hz0 hz1 hz2 rfl (by decide) _ i vs rfl ((HOO.out.kept (below_grown BRM.out none) (by cases ao0 <;> simp [Value.ownBlock])).alloc _) ⟨wm.heap.size, 0, none⟩ 1 1 [.slice am (limbs (cnt ws t i)).length cm] rfl rfl (cell_one_new wm (.slice am (limbs (cnt ws t i)).length cm) 69) (by simp [Value.oneCell']) (by unfold maxLen; omega) (by omega) (by have := hB.out.size; have := BRM.out.size; simp; omega) ?_; intro v' w5 hown hgrow _ hat; have HO5 := hid hown; have HG5 := hid hgrow; have HA5 := hid hat; clear hown hgrow hat)
          have N5 := hid (NOwn.next (f := cnt ws t) HOO.out HO9.out BRM.out VM.out BRE2.out FM.out HO5.out HG5.out HA5.out)
          have B5 := hid (own_below HOO.out hB.out BRM.out HG5.out)
          clear HO5 HG5 HA5
          go_wp2_with fail
          go_roundw
          case rel => exact ⟨i + 1, by go_num, by omega, N5, B5⟩
          case measure => simp [intOf] <;> omega
        · have HCN : Hid (cntF ws t i - cntF ws t i = cnt ws t i) := by
            have := D2.out
            rw [hd2] at this
            have := of_decide_eq_true this.symm
            show _ = _
            rw [HC.out i]
            omega
          go_wp2_with fail
          refine (r1_MinusF _ _ _ _ _ (HX.out.call BXE.out) (HX.out.call BXE.out) (Nat.le_refl _) (LF.out i)).mono ?_; rintro e wm ⟨⟨vm, rfl, hvm, hfm⟩, hbm⟩
          have hcn := HCN.out
          rw [hcn] at hvm
          obtain ⟨am, cm, rfl, -, -, -⟩ := hvm.openI
          have VM := hid hvm; have BRM := hid (bnext BRE.out hbm); have FM := hid hfm; have BRE2 := hid BRE.out.size
          clear hvm hbm hfm hcn
          obtain ⟨vs, HO0, HO1⟩ := id hO.out
          have HOO := hid HO0; have HO9 := hid HO1
          clear HO0 HO1
          go_wp2_with (at_builtin; refine wpList_append_own_at _ rfl _ _ 92 rfl w2.heap.size 69 i0 (.slice none 0 0) 1 24 Tryz.underlying92 hi hz0 hz1 hz2 rfl (by decide) _ i vs rfl ((HOO.out.kept (below_grown BRM.out none) (by cases ao0 <;> simp [Value.ownBlock])).alloc _) ⟨wm.heap.size, 0, none⟩ 1 1 [.slice am (limbs (cnt ws t i)).length cm] rfl rfl (cell_one_new wm (.slice am (limbs (cnt ws t i)).length cm) 69) (by simp [Value.oneCell']) (by unfold maxLen; omega) (by omega) (by have := hB.out.size; have := BRM.out.size; simp; omega) ?_; intro v' w5 hown hgrow _ hat; have HO5 := hid hown; have HG5 := hid hgrow; have HA5 := hid hat; clear hown hgrow hat)
          have N5 := hid (NOwn.next (f := cnt ws t) HOO.out HO9.out BRM.out VM.out BRE2.out FM.out HO5.out HG5.out HA5.out)
          have B5 := hid (own_below HOO.out hB.out BRM.out HG5.out)
          clear HO5 HG5 HA5
          go_wp2_with fail
          go_roundw
          case rel => exact ⟨i + 1, by go_num, by omega, N5, B5⟩
          case measure => simp [intOf] <;> omega
    · obtain rfl : i = N := by omega
      go_wp2_with fail
      go_ret
      exact ⟨⟨_, rfl, hO.out.row⟩, BW.out⟩
end Go.Proofs.YtpheklgnmbpobaaGreatDoor
namespace Go.Proofs.YtpheklgnmbpobaaGreatDoor
open Go.RowKit Go.Shelf
open Go.Lib (decDigits nDigits)
set_option linter.unusedVariables false
set_option linter.unusedSimpArgs false
set_option maxRecDepth 100000 in
set_option maxHeartbeats 2000000 in
theorem r5_late (w : World) (v : Value) (ws : List Nat) (n : Nat) (hS : 0 < ws.sum) (hn : n ≤ 256) (hN64 : ws.length ≤ 64) (hv : NRow w v ws.length (cnt ws (2 ^ n))) :
    Calls Tryz.prog 118 #[v, .int .i64 (n : Nat)] w fun e w' => RetN .i64 (2 ^ n - lwS ws (2 ^ n) ws.length) e w' ∧ Below w.heap.size w w' := by
  have RT := fun V => hid (r3_Two V n (by omega))
  obtain ⟨a, c, rfl, r1, r2, r3⟩ := hv.open
  obtain ⟨N, hN⟩ : ∃ N, ws.length = N := ⟨_, rfl⟩
  rw [hN] at r1 r3 hN64 ⊢
  obtain ⟨t, ht⟩ : ∃ t, 2 ^ n = t := ⟨_, rfl⟩
  rw [ht] at RT r3 ⊢
  have tle : t ≤ 2 ^ 256 := by rw [← ht]; exact Nat.pow_le_pow_right (by omega) (by omega)
  have LT : Hid (∀ x, (limbs (t - x)).length ≤ 1000000) := fun x => num_limbs (Nat.le_trans (nDigits_le (k := 78) (by omega) (Nat.lt_of_le_of_lt (Nat.le_trans (Nat.sub_le t x) tle) (by decide))) (by omega))
  have HLE : Hid (∀ i, cnt ws t i ≤ t - lwS ws t i) := fun i => cnt_le ws t i hS
  have HNX : Hid (∀ i, t - lwS ws t i - cnt ws t i = t - lwS ws t (i + 1)) := fun i => by
    show _ = t - (lwS ws t i + cnt ws t i)
    omega
  have R3 := hid r3
  clear hv r3 ht hN tle hS
  go_enter Tryz.func118, Tryz.ntmps118
  go_wp2_with fail
  refine (RT _).out.mono ?_; rintro e w1 ⟨⟨v1, rfl, hv1⟩, hb1⟩
  have V1 := hid hv1; have B1 := hid hb1; clear hv1 hb1
  go_wp2_with fail
  go_loopw [5, 6] (fun oo ii wr => ∃ i : Nat, ii = .int .i64 i ∧ i ≤ N ∧ Hid (IsN .i64 wr oo (t - lwS ws t i)) ∧ Hid (Below w.heap.size w wr)) (fun oo ii wr => N - (intOf ii).toNat)
  case atStart => exact ⟨0, rfl, Nat.zero_le _, V1, B1⟩
  case round =>
    obtain ⟨i, rfl, hi, hO, hB⟩ := hrel
    by_cases hlt : i < N
    · obtain ⟨g, o, y, rfl, hg, hc, hy⟩ := R3.out i hlt
      have hcw := (hB.out.cell (p := ⟨g, o + i, none⟩) hg).trans hc
      have HY := hid hy
      have c1 : (0 : Int) ≤ (i : Int) := by omega
      have c2 : (i : Int) < (N : Int) := by omega
      have wi : IntKind.i64.wrap ((i : Int) + 1) = ((i + 1 : Nat) : Int) := by rw [IntWalk.i64_in _ ⟨by omega, by omega⟩]; omega
      clear hc hy
      go_wp2_with fail
      refine (r1_Minus _ _ _ _ _ hO.out (HY.out.call hB.out) (HLE.out i) (LT.out _)).mono ?_; rintro e w2 ⟨⟨v2, rfl, hv2⟩, hb2⟩
      have V2 := hid (hv2.cast (HNX.out i)); have B2 := hid (bnext hB.out hb2); clear hv2 hb2
      go_wp2_with fail
      go_roundw
      case rel => exact ⟨i + 1, by go_num, by omega, V2, B2⟩
      case measure => simp [intOf] <;> omega
    · obtain rfl : i = N := by omega
      go_wp2_with fail
      go_ret
      exact ⟨⟨_, rfl, hO.out⟩, hB.out⟩
set_option maxRecDepth 100000 in
set_option maxHeartbeats 1000000 in
theorem r3_Share (w : World) (v : Value) (m n : Nat) (hv : IsN .i64 w v m) (hn : n ≤ 256) (hm : m ≤ 2 ^ 256) :
    Calls Tryz.prog 59 #[v, .int .i64 (n : Nat)] w fun e w' => e = .returned (.string (shB m (2 ^ n))) ∧ Below w.heap.size w w' := by
  have RT := fun V => hid (r3_Two V n (by omega))
  obtain ⟨t, ht⟩ : ∃ t, 2 ^ n = t := ⟨_, rfl⟩
  rw [ht] at RT ⊢
  have tle : t ≤ 2 ^ 256 := by rw [← ht]; exact Nat.pow_le_pow_right (by omega) (by omega)
  have tpos : t ≠ 0 := by rw [← ht]; exact Nat.ne_of_gt (Nat.pow_pos (by omega))
  have big : ∀ x, x ≤ 2 ^ 256 → nDigits x ≤ 78 := fun x hx => nDigits_le (by omega) (Nat.lt_of_le_of_lt hx (by decide))
  have dm := big m hm; have dt := big t tle
  have LM : Hid ((limbs m).length ≤ 1000000) := num_limbs (by omega)
  have LT : Hid ((limbs t).length ≤ 1000000) := num_limbs (by omega)
  have RM := fun V => hid (r2_Make_num V m t (by omega) (by omega) tpos)
  have V0 := hid hv
  clear hv ht tle tpos big hm dm dt
  go_enter Tryz.func59, Tryz.ntmps59
  go_wp2_with fail
  refine (r1_Write _ _ _ V0.out LM.out).mono ?_; rintro e w1 ⟨rfl, hb1⟩
  have B1 := hid hb1; clear hb1
  go_wp2_with fail
  refine (RT _).out.mono ?_; rintro e w2 ⟨⟨v2, rfl, hv2⟩, hb2⟩
  have V2 := hid hv2; have B2 := hid (bnext B1.out hb2); clear hv2 hb2
  go_wp2_with fail
  refine (r1_Write _ _ _ V2.out LT.out).mono ?_; rintro e w3 ⟨rfl, hb3⟩
  have B3 := hid (bnext B2.out hb3); clear hb3
  go_wp2_with fail
  refine (RM _).out.mono ?_; rintro e w4 ⟨rfl, hb4⟩
  have B4 := hid (bnext B3.out hb4); clear hb4
  go_wp2_with fail
  go_ret
  exact ⟨rfl, B4.out⟩
theorem late_ok {l : List ByteArray} (h : wsE l = 0) (n : Nat) (hn : n ≤ 256) : 2 ^ n - lwS (l.map bN) (2 ^ n) l.length ≤ 2 ^ 256 := Nat.le_trans (Nat.sub_le _ _) (Nat.pow_le_pow_right (by omega) hn)
end Go.Proofs.YtpheklgnmbpobaaGreatDoor
namespace Go.Proofs.YtpheklgnmbpobaaGreatDoor
open Go.RowKit Go.Shelf
open Go.Lib (decDigits nDigits)
set_option linter.unusedVariables false
set_option linter.unusedSimpArgs false
set_option maxRecDepth 100000 in
set_option maxHeartbeats 1000000 in
theorem r7_Share (w : World) (k n : Nat) (hk : k ≤ 1000000) (hn : n ≤ 256) :
    Calls Tryz.prog 24 #[.int .i64 (k : Nat), .int .i64 (n : Nat)] w fun e w' => e = .returned (.string (shB k (2 ^ n))) ∧ Below w.heap.size w w' := by
  have H1 := fun V => hid (r2_Int V k (by omega))
  have H2 := fun V => hid (r1_Read_num V k (Nat.le_trans (nDigits_le (k := 7) (by omega) (by omega)) (by omega)))
  have hk2 : k ≤ 2 ^ 256 := Nat.le_trans hk (by decide)
  have H3 := fun V v hv => hid (r3_Share V v k n hv hn hk2)
  generalize shB k (2 ^ n) = B at *
  generalize numB k = A1 at *
  clear hk2
  go_enter Tryz.func24, Tryz.ntmps24
  go_wp2_with fail
  refine (H1 _).out.mono ?_; rintro e w1 ⟨rfl, rfl⟩
  go_wp2_with fail
  refine (H2 _).out.mono ?_; rintro e w2 ⟨⟨v2, rfl, hv2⟩, hb2⟩
  have y2 := hid hb2
  have V2 := hid hv2
  obtain ⟨a2, c2, rfl, -, -, -⟩ := hv2.openI
  clear hb2 hv2
  go_wp2_with fail
  refine (H3 _ _ V2.out).out.mono ?_; rintro e w3 ⟨rfl, hb3⟩
  have y3 := hid (bnext y2.out hb3)
  clear hb3
  go_wp2_with fail
  go_ret
  exact ⟨rfl, y3.out⟩
end Go.Proofs.YtpheklgnmbpobaaGreatDoor
namespace Go.Proofs.YtpheklgnmbpobaaGreatDoor
open Go.RowKit Go.Shelf
open Go.Lib (decDigits nDigits)
set_option linter.unusedVariables false
theorem make_ints (n : Nat) (hn : n ≤ 3000000) (W : World) : (Instr.makeSlice 55 (.int .i64 (n : Int)) (.int .i64 (n : Int))).run Tryz.prog W = .ok (.slice (some ⟨W.heap.size, 0, none⟩) n n) (W.alloc (.cells (madeCells #[.int .i64 0] n) 3)) :=
  run_make_row' (P := Tryz.prog) 55 3 (.int .i64 0) 8 Tryz.underlying55 (by kernel_rfl) rfl .i64 .i64 n (by omega) (by omega) W
theorem tb_list (l : List UInt8) : (tb l).data.toList = l := by simp [tb]
theorem bit_words {n : Nat} {l : List UInt8} (h : l ∈ allW n) (hn : n ≤ 256) : chkE (tb l) = 0 := by
  have h1 : bitB (tb l) = true := by
    unfold bitB
    rw [tb_list, List.all_eq_true]
    intro b hb
    rcases allW_bits h b hb with rfl | rfl <;> decide
  rw [chkE, if_pos h1, if_neg (by rw [tb_size, allW_len h]; omega)]
theorem made_ints (n : Nat) : madeCells #[.int .i64 0] n = (ints .i64 (List.replicate n 0)).toArray := made_zeros .i64 n
theorem less_lt {x z : ByteArray} (h : ¬ z.data.toList ≤ x.data.toList) : Op.bytesLess x.toList z.toList = true := by
  rw [bytesLess_eq, Lib.toList_data, Lib.toList_data]
  exact decide_eq_true (List.not_le.1 h)
end Go.Proofs.YtpheklgnmbpobaaGreatDoor
namespace Go.Proofs.YtpheklgnmbpobaaGreatDoor
open Go.RowKit
set_option linter.unusedVariables false
theorem r2_small (w : World) (n : Nat) (h : n ≤ 9223372036854775807) : Calls Tryz.prog 45 #[.int .i64 n] w fun e w' => e = .returned (numV n) ∧ w = w' := by
  go_enter Tryz.func45, Tryz.ntmps45
  go_wp2_with fail
  refine (r1_FromInt _ n h).mono ?_; rintro e w1 ⟨rfl, rfl⟩
  go_wp2_with fail
  go_ret
  exact ⟨rfl, rfl⟩
end Go.Proofs.YtpheklgnmbpobaaGreatDoor
namespace Go.Proofs.YtpheklgnmbpobaaGreatDoor
open Go.RowKit
open Go.Lib (decDigits nDigits)
set_option linter.unusedVariables false
set_option linter.unusedSimpArgs false
theorem zB_neg (m : Nat) : (⟨#[45]⟩ : ByteArray) ++ numB (m + 1) = zB (-((m : Int) + 1)) := by
  apply ba_ext
  rw [ByteArray.data_append, Array.toList_append, numB_list, zB_list, show -((m : Int) + 1) = -((m + 1 : Nat) : Int) by omega, Lib.itoa_neg _ (by omega)]
  rfl
theorem ndig_i64 {n : Nat} (h : n ≤ 9223372036854775807) : nDigits n ≤ 9000 := Nat.le_trans (nDigits_le (k := 19) (by omega) (by omega)) (by omega)
theorem lim_i64 {n : Nat} (h : n ≤ 9223372036854775807) : (limbs n).length ≤ 1000000 := Nat.le_trans (limbs_digits (K := 3) (Nat.le_trans (nDigits_le (k := 19) (by omega) (by omega)) (by omega))) (by omega)
set_option maxRecDepth 100000 in
set_option maxHeartbeats 1000000 in
theorem r2_IntNeg (w : World) (m : Nat) (h : m ≤ 1000000000) : Calls Tryz.prog 16 #[.int .i64 (-((m : Int) + 1))] w fun e w' => e = .returned (.string (zB (-((m : Int) + 1)))) ∧ Below w.heap.size w w' := by
  have q0 : decide ((0 : Int) ≤ -((m : Int) + 1)) = false := by simp <;> omega
  have q1 : IntKind.i64.wrap (-((m : Int) + 1) + 1) = -(m : Int) := by rw [IntWalk.i64_in _ ⟨by omega, by omega⟩]; omega
  have q2 : IntKind.i64.wrap (-(-(m : Int))) = (m : Int) := by rw [IntWalk.i64_in _ ⟨by omega, by omega⟩]; omega
  have q3 : IntKind.i64.wrap (-(-((m : Int) + 1) + 1)) = (m : Int) := by rw [IntWalk.i64_in _ ⟨by omega, by omega⟩]; omega
  have q4 : IntKind.i64.wrap (m : Int) = (m : Int) := by rw [IntWalk.i64_in _ ⟨by omega, by omega⟩]
  have hz := zB_neg m
  obtain ⟨Z, hZ⟩ : ∃ Z, zB (-((m : Int) + 1)) = Z := ⟨_, rfl⟩
  rw [hZ] at hz ⊢
  have HS := fun V => hid (r2_small V m (by omega))
  have HR := fun V => hid (r1_Read_num V m (ndig_i64 (by omega)))
  have HO := fun V => hid (r2_one V)
  have HP := fun V v u hv hu => hid (r1_Plus V v u m 1 hv hu (lim_i64 (by omega)) (lim_i64 (by omega)))
  have HW := fun V v hv => hid (r1_Write V v (m + 1) hv (lim_i64 (by omega)))
  obtain ⟨M, hM⟩ : ∃ M, numB m = M := ⟨_, rfl⟩
  have hsz := numB_size (m + 1)
  have hnd := ndig_i64 (n := m + 1) (by omega)
  obtain ⟨M1, hM1⟩ : ∃ M, numB (m + 1) = M := ⟨_, rfl⟩
  rw [hM1] at hsz
  have hcat : ¬ 9223372036854775807 < 1 + M1.size := by omega
  simp only [numV_eq] at HS HW
  rw [hM] at HS HR
  rw [hM1] at HW hz
  clear hM hM1 hZ h hsz hnd
  go_enter Tryz.func16, Tryz.ntmps16
  go_wp2_with fail
  refine (HS _).out.mono ?_; rintro e w1 ⟨rfl, rfl⟩
  go_wp2_with fail
  refine (HR _).out.mono ?_; rintro e w2 ⟨⟨v2, rfl, h2⟩, hb2⟩
  have B2 := hid hb2; have V2 := hid h2; clear hb2 h2
  go_wp2_with fail
  refine (HO _).out.mono ?_; rintro e w3 ⟨⟨v3, rfl, h3⟩, hb3⟩
  have B3 := hid (bnext B2.out hb3); have V3 := hid (V2.out.call hb3); have U3 := hid h3; clear hb3 h3
  go_wp2_with fail
  refine (HP _ _ _ V3.out U3.out).out.mono ?_; rintro e w4 ⟨⟨v4, rfl, h4⟩, hb4⟩
  have B4 := hid (bnext B3.out hb4); have V4 := hid h4; clear hb4 h4
  go_wp2_with fail
  refine (HW _ _ V4.out).out.mono ?_; rintro e w5 ⟨rfl, hb5⟩
  have B5 := hid (bnext B4.out hb5); clear hb5
  go_wp2_with fail
  go_ret
  exact ⟨rfl, B5.out⟩
theorem r2_IntZ (w : World) (k : Int) (h1 : -1000000000 ≤ k) (h2 : k ≤ 1000000000) : Calls Tryz.prog 16 #[.int .i64 k] w fun e w' => e = .returned (.string (zB k)) ∧ Below w.heap.size w w' := by
  by_cases hk : 0 ≤ k
  · obtain ⟨n, rfl⟩ : ∃ n : Nat, k = (n : Nat) := ⟨k.toNat, by omega⟩
    refine (r2_Int w n (by omega)).mono ?_
    rintro e w' ⟨rfl, rfl⟩
    exact ⟨by rw [zB_nat], Below.refl _ _⟩
  · obtain ⟨m, rfl⟩ : ∃ m : Nat, k = -((m : Int) + 1) := ⟨(-k - 1).toNat, by omega⟩
    exact r2_IntNeg w m (by omega)
end Go.Proofs.YtpheklgnmbpobaaGreatDoor
