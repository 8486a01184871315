/- Walks: the search for a ticket (slices.ContainsFunc with a closure). -/
import Derived.Test.YtjpkglgbcflbnaaPush
namespace Go.Proofs.Ytjpkglgbcflbnaa
open Go.RowKit

theorem clos_any (p : Tk) (t : Int) (x : Nat) (w : World) (hx : w.cell? ⟨x, 0, none⟩ = some (.int .i64 t)) (hlt : x < w.heap.size) :
    Calls Try.prog 29 #[.agg #[.int .i64 p.1, .int .i64 p.2], .pointer (some ⟨x, 0, none⟩)] w fun e w' => e = .returned (.bool (p.2 == t)) ∧ Below w.heap.size w w' := by
  go_enter Try.func29, Try.ntmps29
  go_wp2
  go_ret
  exact ⟨rfl, (Below.refl _ _).alloc (Nat.le_refl _) _⟩

/-- Where ticket t stands. -/
def Found (d : Array Tk) (t : Int) (r : Int) : Prop := (r = -1 ∧ ∀ i, i < d.size → (G d i).2 ≠ t) ∨ (∃ i : Nat, i < d.size ∧ r = i ∧ (G d i).2 = t)

def RetInt (P : Int → Prop) (e : Ending) : Prop := ∃ n : Int, P n ∧ e = .returned (.int .i64 n)

set_option maxRecDepth 10000 in
set_option maxHeartbeats 1000000 in
theorem idx_hq (b g c : Nat) (s : Int) (d : Array Tk) (t : Int) (x : Nat) (w : World) (h : HQ w b g s c d) (hx : w.cell? ⟨x, 0, none⟩ = some (.int .i64 t)) (hlt : x < w.heap.size) :
    Calls Try.prog 35 #[.slice (some ⟨g, 0, none⟩) d.size c, .func (.func 29) #[] #[.pointer (some ⟨x, 0, none⟩)]] w fun e w' => RetInt (Found d t) e ∧ Below w.heap.size w w' := by
  have hsm := h.sm
  have H := hid h; have HX := hid hx; clear h hx
  go_enter Try.func35, Try.ntmps35
  go_wp2_with fail
  go_loopw [8] (fun v wr => ∃ k : Nat, v = .int .i64 k ∧ k ≤ d.size ∧ Hid (∀ i, i < k → (G d i).2 ≠ t) ∧ Hid (Below w.heap.size w wr))
    (fun v _ => d.size - (intOf v).toNat)
  case atStart => exact ⟨0, rfl, Nat.zero_le _, fun _ h => absurd h (Nat.not_lt_zero _), Below.refl _ _⟩
  case round =>
    obtain ⟨k, rfl, hk, hall, hb⟩ := hrel
    by_cases hkn : k < d.size
    · have c0 := (H.out.call hb.out).c0 hkn
      have c1 := (H.out.call hb.out).c1 hkn
      go_wp2_with fail
      refine (clos_any (G d k) t x wr ((hb.out.cell (p := ⟨x, 0, none⟩) hlt).trans HX.out) (Nat.lt_of_lt_of_le hlt hb.out.size)).mono ?_
      rintro e w1 ⟨rfl, hb1⟩
      have hb2 := hid (hb.out.trans (hb1.mono hb.out.size))
      clear hb1 c0 c1
      by_cases ht : (G d k).2 = t
      · have hd : ((G d k).2 == t) = true := by simpa using ht
        have HT := hid ht; clear ht
        go_wp2_with fail
        go_ret
        exact ⟨⟨k, .inr ⟨k, hkn, rfl, HT.out⟩, rfl⟩, hb2.out⟩
      · have hd : ((G d k).2 == t) = false := by simpa using ht
        have HT := hid ht; clear ht
        go_wp2_with fail
        go_roundw
        case rel => exact ⟨k + 1, by go_num, by omega, fun i hi => (by by_cases e : i = k; · rw [e]; exact HT.out
                                                                       · exact hall.out i (by omega)), hb2⟩
        case measure => simp [intOf]; omega
    · go_wp2
      go_ret
      exact ⟨⟨-1, .inl ⟨rfl, fun i hi => hall.out i (by omega)⟩, rfl⟩, hb.out⟩

theorem idx_none (a : Option Addr) (c : Nat) (f : Value) (w : World) :
    Calls Try.prog 35 #[.slice a 0 c, f] w fun e w' => e = .returned (.int .i64 (-1)) ∧ w = w' := by
  go_enter Try.func35, Try.ntmps35
  go_wp2_with fail
  refine wp_loop_rounds 1 ?_
  rw [rounds_succ]
  go_wp2
  go_ret
  exact ⟨rfl, rfl⟩

/-- Ticket t waits. -/
def hasT (d : Array Tk) (t : Int) : Bool := d.toList.any fun p => p.2 == t

theorem hasT_iff (d : Array Tk) (t : Int) : hasT d t = true ↔ ∃ i, i < d.size ∧ (G d i).2 = t := by
  unfold hasT
  rw [List.any_eq_true]
  constructor
  · rintro ⟨p, hp, h⟩
    obtain ⟨i, hi⟩ := List.getElem?_of_mem hp
    have hlt : i < d.size := by have := (List.getElem?_eq_some_iff.1 hi).1; simpa using this
    refine ⟨i, hlt, ?_⟩
    rw [G_toList d i hlt] at hi
    simp at hi; subst hi; simpa using h
  · rintro ⟨i, hi, h⟩
    exact ⟨G d i, List.mem_of_getElem? (G_toList d i hi), by simpa using h⟩

theorem contains_any (b : Nat) (r : Option Nat) (s : Int) (d : Array Tk) (t : Int) (x : Nat) (w : World) (v : Value) (h : QS w b r s d) (hv : w.cell? ⟨b, 1, none⟩ = some v) (hx : w.cell? ⟨x, 0, none⟩ = some (.int .i64 t)) (hlt : x < w.heap.size) :
    Calls Try.prog 28 #[v, .func (.func 29) #[] #[.pointer (some ⟨x, 0, none⟩)]] w fun e w' => e = .returned (.bool (hasT d t)) ∧ Below w.heap.size w w' := by
  by_cases h0 : 0 < d.size
  · obtain ⟨g, c, rfl, hq⟩ := h.hq h0
    obtain rfl : v = .slice (some ⟨g, 0, none⟩) d.size c := by have := hq.l; rw [hv] at this; simpa using this
    have H := hid hq; have HX := hid hx; clear h hq hx hv h0
    go_enter Try.func28, Try.ntmps28
    go_wp2_with fail
    refine (idx_hq b g c s d t x w H.out HX.out hlt).mono ?_
    rintro e w1 ⟨⟨n, hn, rfl⟩, hb⟩
    rcases hn with ⟨rfl, hn⟩ | ⟨i, hi, rfl, hn⟩
    · have HN := hid hn; clear hn
      go_wp2_with fail
      go_ret
      refine ⟨?_, hb⟩
      have : hasT d t = false := by
        cases e : hasT d t
        · rfl
        · obtain ⟨i, hi, h⟩ := (hasT_iff d t).1 e
          exact absurd h (HN.out i hi)
      rw [this]; rfl
    · have HN := hid hn; clear hn
      go_wp2_with fail
      go_ret
      refine ⟨?_, hb⟩
      rw [(hasT_iff d t).2 ⟨i, hi, HN.out⟩]; rfl
  · obtain ⟨v', hb, ho, _⟩ := h.ex
    obtain rfl : v' = v := by have := hb.cell 1; rw [hv] at this; simpa using this.symm
    have hd0 : d.size = 0 := by omega
    obtain ⟨a, c, rfl⟩ : ∃ a c, v' = .slice a 0 c := by
      rcases ho.2 with ⟨rfl, _⟩ | ⟨g, cap, cur, rfl, _⟩
      · exact ⟨_, _, rfl⟩
      · exact ⟨_, _, by rw [hd0]⟩
    clear h hb ho h0 hv hx
    have hf : hasT d t = false := by
      cases e : hasT d t
      · rfl
      · obtain ⟨i, hi, h⟩ := (hasT_iff d t).1 e
        omega
    go_enter Try.func28, Try.ntmps28
    go_wp2_with fail
    refine (idx_none _ _ _ _).mono ?_
    rintro e w1 ⟨rfl, rfl⟩
    go_wp2_with fail
    go_ret
    exact ⟨by rw [hf]; rfl, Below.refl _ _⟩
end Go.Proofs.Ytjpkglgbcflbnaa
