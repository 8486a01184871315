/- Walks: up and down. -/
import Derived.Test.YtjpkglgbcflbnaaUp
namespace Go.Proofs.Ytjpkglgbcflbnaa
open Go.RowKit

theorem perm_size {a b : Array Tk} (h : a.Perm b) : a.size = b.size := h.size_eq

set_option maxRecDepth 10000 in
set_option maxHeartbeats 1000000 in
theorem up_any (b g c : Nat) (s : Int) (d : Array Tk) (j : Nat) (w : World) (h : HQ w b g s c d) (hj : j < d.size) (hi : UpInv d d.size j) :
    Calls Try.prog 36 #[.iface 63 (.pointer (some ⟨b, 1, none⟩)), .int .i64 j] w fun e w' => e = .returned (.tuple #[]) ∧ ∃ d', HQ w' b g s c d' ∧ d'.Perm d ∧ Heaped d' d'.size ∧ Keep2 w w' b (some g) := by
  have H := hid h; have HI := hid hi; have hsm := h.sm
  clear h hi
  go_enter Try.func36, Try.ntmps36
  go_wp2_with fail
  go_loopw [1] (fun v wr => ∃ (k : Nat) (e : Array Tk), v = .int .i64 k ∧ k < d.size ∧ Hid (HQ wr b g s c e) ∧ Hid (e.Perm d) ∧ Hid (UpInv e e.size k) ∧ Hid (Keep2 w wr b (some g)))
    (fun v _ => (intOf v).toNat)
  case atStart => exact ⟨j, d, rfl, hj, H, .refl _, HI, Keep2.refl _ _ _⟩
  case round =>
    obtain ⟨k, e, rfl, hk, hq, hp, hu, hkeep⟩ := hrel
    have hes : Hid (e.size = d.size) := perm_size hp.out
    by_cases h0 : k = 0
    · subst h0
      go_wp2
      go_end0
      have hu' : UpInv e e.size 0 := by simpa using hu.out
      exact ⟨rfl, e, hq.out, hp.out, hu'.done (.inl rfl), hkeep.out⟩
    · have hm1 := meth_less b wr _ hq.out.l
      have ei : ((k : Int) - 1) / 2 = (((k - 1) / 2 : Nat) : Int) := by omega
      have EI := hid ei; clear ei
      go_wp2_with fail
      rw [EI.out]
      refine (lessQ hq.out k ((k - 1) / 2) (by have := hes.out; omega) (by have := hes.out; omega)).mono ?_; rintro ee w1 ⟨rfl, hb1⟩
      have hq1 := hid (hq.out.call hb1)
      have hm2 := meth_swap b w1 _ hq1.out.l
      have hk1 := hid (hkeep.out.trans (Below.keep2 hb1 b none) (fun x hx => by cases hx))
      by_cases hlt : ordI (G e k) (G e ((k - 1) / 2)) < 0
      · have hl2 := hid ((ordI_neg _ _).1 hlt)
        have hld : decide (ordI (G e k) (G e ((k - 1) / 2)) < 0) = true := by simpa using hlt
        clear hm1 hb1 hlt
        go_wp2_with fail
        refine (swapQ hq1.out ((k - 1) / 2) k (by have := hes.out; omega) (by have := hes.out; omega)).mono ?_; rintro ee w2 ⟨rfl, hq2, hk2⟩
        have hq3 := hid hq2
        have hk3 := hid (hk1.out.trans hk2 (fun x hx => .inl hx))
        clear hm2 hq2 hk2 hld
        go_wp2_with fail
        go_roundw
        case rel => exact ⟨(k - 1) / 2, _, rfl, by omega, hq3, (sw_perm _ _ _).trans hp.out, by rw [Hid, size_sw]; exact hu.out.step (by omega) (by have := hes.out; omega) (Nat.le_refl _) (not_tle hl2.out), hk3⟩
        case measure => simp [intOf]; omega
      · have hl2 := hid (Classical.not_not.1 (mt (ordI_neg _ _).2 hlt))
        have hld : decide (ordI (G e k) (G e ((k - 1) / 2)) < 0) = false := by simpa using hlt
        clear hm1 hb1 hlt
        go_wp2_with fail
        go_end0
        exact ⟨rfl, e, hq1.out, hp.out, hu.out.done (.inr hl2.out), hk1.out⟩

def RetB (e : Ending) : Prop := ∃ r, e = .returned (.bool r)

/-- From place n on nothing has turned. -/
def Rest (d e : Array Tk) (n : Nat) : Prop := ∀ k, n ≤ k → G e k = G d k

theorem Rest.sw {d e : Array Tk} {n i j : Nat} (h : Rest d e n) (hi : i < n) (hj : j < n) (hn : n ≤ e.size) : Rest d (sw e i j) n := by
  intro k hk
  rw [G_sw e (by omega) (by omega), if_neg (by omega), if_neg (by omega)]; exact h k hk

theorem child_min (e : Array Tk) (n k : Nat) (h2 : ¬ 2 * k + 1 + 1 < n ∨ tle (G e (2 * k + 1)) (G e (2 * k + 1 + 1))) : ∀ m, 0 < m → m < n → (m - 1) / 2 = k → tle (G e (2 * k + 1)) (G e m) := by
  intro m hm0 hm hp
  have : m = 2 * k + 1 ∨ m = 2 * k + 1 + 1 := by omega
  rcases this with rfl | rfl
  · exact tle_refl _
  · exact h2.resolve_left (by omega)

theorem child_min2 (e : Array Tk) (n k : Nat) (h2 : tle (G e (2 * k + 1 + 1)) (G e (2 * k + 1))) : ∀ m, 0 < m → m < n → (m - 1) / 2 = k → tle (G e (2 * k + 1 + 1)) (G e m) := by
  intro m hm0 hm hp
  have : m = 2 * k + 1 ∨ m = 2 * k + 1 + 1 := by omega
  rcases this with rfl | rfl
  · exact h2
  · exact tle_refl _

set_option maxRecDepth 10000 in
set_option maxHeartbeats 2000000 in
theorem down_any (b g c n : Nat) (s : Int) (d : Array Tk) (w : World) (h : HQ w b g s c d) (hn : n < d.size) (hi : DnInv d n 0) :
    Calls Try.prog 37 #[.iface 63 (.pointer (some ⟨b, 1, none⟩)), .int .i64 0, .int .i64 n] w fun e w' => RetB e ∧ ∃ d', HQ w' b g s c d' ∧ d'.Perm d ∧ Heaped d' n ∧ Rest d d' n ∧ Keep2 w w' b (some g) := by
  have H := hid h; have HI := hid hi; have hsm := h.sm
  clear h hi
  go_enter Try.func37, Try.ntmps37
  go_wp2_with fail
  go_loopw [7] (fun v wr => ∃ (k : Nat) (e : Array Tk), v = .int .i64 k ∧ (k < n ∨ k = 0) ∧ Hid (HQ wr b g s c e) ∧ Hid (e.Perm d) ∧ Hid (DnInv e n k) ∧ Hid (Rest d e n) ∧ Hid (Keep2 w wr b (some g)))
    (fun v _ => n - (intOf v).toNat)
  case atStart => exact ⟨0, d, rfl, .inr rfl, H, .refl _, HI, fun _ _ => rfl, Keep2.refl _ _ _⟩
  case round =>
    obtain ⟨k, e, rfl, hk, hq, hp, hu, hrest, hkeep⟩ := hrel
    have hes : Hid (e.size = d.size) := perm_size hp.out
    have hm1 := meth_less b wr _ hq.out.l
    by_cases h1 : 2 * k + 1 < n
    · have hkn : k < n := by omega
      clear hk
      by_cases h2 : 2 * k + 1 + 1 < n
      · go_wp2_with fail
        have E1 := hid (show (2 * (k : Int) + 1) = ((2 * k + 1 : Nat) : Int) by omega)
        have E2 := hid (show (2 * (k : Int) + 1 + 1) = ((2 * k + 1 + 1 : Nat) : Int) by omega)
        rw [E2.out, E1.out]
        refine (lessQ hq.out (2 * k + 1 + 1) (2 * k + 1) (by have := hes.out; omega) (by have := hes.out; omega)).mono ?_; rintro ee w1 ⟨rfl, hb1⟩
        have hq1 := hid (hq.out.call hb1)
        have hk1 := hid (hkeep.out.trans (Below.keep2 hb1 b none) (fun x hx => by cases hx))
        have hm2 := meth_less b w1 _ hq1.out.l
        clear hm1 hb1
        by_cases hlt : ordI (G e (2 * k + 1 + 1)) (G e (2 * k + 1)) < 0
        · have hmin := hid (child_min2 e n k (not_tle ((ordI_neg _ _).1 hlt)))
          have hld : decide (ordI (G e (2 * k + 1 + 1)) (G e (2 * k + 1)) < 0) = true := by simpa using hlt
          have hjp : (2 * k + 1 + 1 - 1) / 2 = k := by omega
          have hkj : k < 2 * k + 1 + 1 := by omega
          rw [hld]
          clear hlt hld E1 E2
          generalize hjj : 2 * k + 1 + 1 = j at h2 hjp hkj hmin ⊢
          have hjn : j < n := h2
          clear hjj h2 h1
          go_wp2_with fail
          refine (lessQ hq1.out j k (by have := hes.out; omega) (by have := hes.out; omega)).mono ?_; rintro ee w2 ⟨rfl, hb2⟩
          have hq2 := hid (hq1.out.call hb2)
          have hm3 := meth_swap b w2 _ hq2.out.l
          have hk2 := hid (hk1.out.trans (Below.keep2 hb2 b none) (fun x hx => by cases hx))
          by_cases hlt : ordI (G e j) (G e k) < 0
          · have hl2 := hid ((ordI_neg _ _).1 hlt)
            have hld : decide (ordI (G e j) (G e k) < 0) = true := by simpa using hlt
            clear hm2 hb2 hlt
            go_wp2_with fail
            refine (swapQ hq2.out k j (by have := hes.out; omega) (by have := hes.out; omega)).mono ?_; rintro ee w3 ⟨rfl, hq3, hk3⟩
            have hq4 := hid hq3
            have hk4 := hid (hk2.out.trans hk3 (fun x hx => .inl hx))
            clear hm3 hq3 hk3 hld
            go_wp2_with fail
            go_roundw
            case rel => exact ⟨j, _, rfl, .inl hjn, hq4, (sw_perm _ _ _).trans hp.out, hu.out.step (by have := hes.out; omega) (by omega) hjn hjp hmin.out (not_tle hl2.out), hrest.out.sw (by omega) hjn (by have := hes.out; omega), hk4⟩
            case measure => simp [intOf]; omega
          · have hl2 := hid (Classical.not_not.1 (mt (ordI_neg _ _).2 hlt))
            have hld : decide (ordI (G e j) (G e k) < 0) = false := by simpa using hlt
            clear hm2 hb2 hlt
            go_wp2_with fail
            go_ret
            exact ⟨⟨_, rfl⟩, e, hq2.out, hp.out, hu.out.done (fun m a1 a2 a3 => tle_trans hl2.out (hmin.out m a1 a2 a3)), hrest.out, hk2.out⟩
        · have hmin := hid (child_min e n k (.inr (Classical.not_not.1 (mt (ordI_neg _ _).2 hlt))))
          have hld : decide (ordI (G e (2 * k + 1 + 1)) (G e (2 * k + 1)) < 0) = false := by simpa using hlt
          have hjp : (2 * k + 1 - 1) / 2 = k := by omega
          have hkj : k < 2 * k + 1 := by omega
          rw [hld]
          clear hlt hld E1 E2 h2
          generalize hjj : 2 * k + 1 = j at h1 hjp hkj hmin ⊢
          have hjn : j < n := h1
          clear hjj h1
          go_wp2_with fail
          refine (lessQ hq1.out j k (by have := hes.out; omega) (by have := hes.out; omega)).mono ?_; rintro ee w2 ⟨rfl, hb2⟩
          have hq2 := hid (hq1.out.call hb2)
          have hm3 := meth_swap b w2 _ hq2.out.l
          have hk2 := hid (hk1.out.trans (Below.keep2 hb2 b none) (fun x hx => by cases hx))
          by_cases hlt : ordI (G e j) (G e k) < 0
          · have hl2 := hid ((ordI_neg _ _).1 hlt)
            have hld : decide (ordI (G e j) (G e k) < 0) = true := by simpa using hlt
            clear hm2 hb2 hlt
            go_wp2_with fail
            refine (swapQ hq2.out k j (by have := hes.out; omega) (by have := hes.out; omega)).mono ?_; rintro ee w3 ⟨rfl, hq3, hk3⟩
            have hq4 := hid hq3
            have hk4 := hid (hk2.out.trans hk3 (fun x hx => .inl hx))
            clear hm3 hq3 hk3 hld
            go_wp2_with fail
            go_roundw
            case rel => exact ⟨j, _, rfl, .inl hjn, hq4, (sw_perm _ _ _).trans hp.out, hu.out.step (by have := hes.out; omega) (by omega) hjn hjp hmin.out (not_tle hl2.out), hrest.out.sw (by omega) hjn (by have := hes.out; omega), hk4⟩
            case measure => simp [intOf]; omega
          · have hl2 := hid (Classical.not_not.1 (mt (ordI_neg _ _).2 hlt))
            have hld : decide (ordI (G e j) (G e k) < 0) = false := by simpa using hlt
            clear hm2 hb2 hlt
            go_wp2_with fail
            go_ret
            exact ⟨⟨_, rfl⟩, e, hq2.out, hp.out, hu.out.done (fun m a1 a2 a3 => tle_trans hl2.out (hmin.out m a1 a2 a3)), hrest.out, hk2.out⟩
      · go_wp2_with fail
        have E1 := hid (show (2 * (k : Int) + 1) = ((2 * k + 1 : Nat) : Int) by omega)
        rw [E1.out]
        have hmin := hid (child_min e n k (.inl h2))
        have hjp : (2 * k + 1 - 1) / 2 = k := by omega
        have hkj : k < 2 * k + 1 := by omega
        have hq1 := hq
        have hk1 := hkeep
        have hm2 := hm1
        clear E1 h2
        generalize hjj : 2 * k + 1 = j at h1 hjp hkj hmin ⊢
        have hjn : j < n := h1
        clear hjj h1
        refine (lessQ hq1.out j k (by have := hes.out; omega) (by have := hes.out; omega)).mono ?_; rintro ee w2 ⟨rfl, hb2⟩
        have hq2 := hid (hq1.out.call hb2)
        have hm3 := meth_swap b w2 _ hq2.out.l
        have hk2 := hid (hk1.out.trans (Below.keep2 hb2 b none) (fun x hx => by cases hx))
        by_cases hlt : ordI (G e j) (G e k) < 0
        · have hl2 := hid ((ordI_neg _ _).1 hlt)
          have hld : decide (ordI (G e j) (G e k) < 0) = true := by simpa using hlt
          clear hm2 hb2 hlt
          go_wp2_with fail
          refine (swapQ hq2.out k j (by have := hes.out; omega) (by have := hes.out; omega)).mono ?_; rintro ee w3 ⟨rfl, hq3, hk3⟩
          have hq4 := hid hq3
          have hk4 := hid (hk2.out.trans hk3 (fun x hx => .inl hx))
          clear hm3 hq3 hk3 hld
          go_wp2_with fail
          go_roundw
          case rel => exact ⟨j, _, rfl, .inl hjn, hq4, (sw_perm _ _ _).trans hp.out, hu.out.step (by have := hes.out; omega) (by omega) hjn hjp hmin.out (not_tle hl2.out), hrest.out.sw (by omega) hjn (by have := hes.out; omega), hk4⟩
          case measure => simp [intOf]; omega
        · have hl2 := hid (Classical.not_not.1 (mt (ordI_neg _ _).2 hlt))
          have hld : decide (ordI (G e j) (G e k) < 0) = false := by simpa using hlt
          clear hm2 hb2 hlt
          go_wp2_with fail
          go_ret
          exact ⟨⟨_, rfl⟩, e, hq2.out, hp.out, hu.out.done (fun m a1 a2 a3 => tle_trans hl2.out (hmin.out m a1 a2 a3)), hrest.out, hk2.out⟩
    · go_wp2
      go_ret
      exact ⟨⟨_, rfl⟩, e, hq.out, hp.out, hu.out.done (fun m a1 a2 a3 => by omega), hrest.out, hkeep.out⟩
end Go.Proofs.Ytjpkglgbcflbnaa
