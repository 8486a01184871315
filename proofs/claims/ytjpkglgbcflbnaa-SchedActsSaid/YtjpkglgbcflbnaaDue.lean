/- Walks: Due and New of a queue. -/
import Derived.Test.YtjpkglgbcflbnaaQueue
namespace Go.Proofs.Ytjpkglgbcflbnaa
open Go.RowKit

theorem Try.info3 : (Try.prog.info? 3).map (fun i => (i.zero, i.size, i.bytes)) = some (some (.int .i64 0), 1, 8) := by kernel_rfl

theorem field60 (a b : Int) (w : World) : (Instr.field 60 (.agg #[.int .i64 a, .int .i64 b]) 1).run Try.prog w = .ok (.int .i64 b) w := by kernel_rfl

def lenOf : Value → Nat | .slice _ n _ => n | _ => 0

theorem owns_len {w : World} {base : Nat} {e : TypeId} {size : Nat} {v : Value} {n : Nat} {xs : List Value} (h : w.ownsRow base e size v n xs) : lenOf v = n := by
  rcases h.2 with ⟨rfl, rfl⟩ | ⟨g, cap, cur, rfl, _⟩ <;> rfl

theorem owns_ex {w : World} {base : Nat} {e : TypeId} {size : Nat} {v : Value} {n : Nat} {xs : List Value} (h : w.ownsRow base e size v n xs) : ∃ a c, v = .slice a n c := by
  rcases h.2 with ⟨rfl, rfl⟩ | ⟨g, cap, cur, rfl, _⟩
  · exact ⟨_, _, rfl⟩
  · exact ⟨_, _, rfl⟩

theorem pop_qu {w : World} {b : Nat} {r : Option Nat} {s : Int} {p : Tk} {k : List Tk} {d d' : Array Tk} (hs : 1 ≤ s ∧ s ≤ 1000000) (hsm : k.length ≤ 899) (hso : Sorted (p :: k)) (hp : d.toList.Perm (p :: k)) (hq : QS w b r s d') (hpp : (d'.push p).Perm d) (hh : Heaped d' d'.size) : Qu w b r s k := by
  refine ⟨hs, (List.pairwise_cons.1 hso).2, by omega, d', hq, hh, ?_⟩
  have h1 : (d'.push p).toList.Perm (p :: k) := hpp.toList.trans hp
  rw [Array.toList_push] at h1
  exact ((List.perm_append_singleton _ _).symm.trans h1).cons_inv

theorem Qu.grown {w w' : World} {b : Nat} {r row : Option Nat} {s : Int} {l : List Tk} (h : Qu w b r s l) (hg : w.grownBy w' row) (h1 : row ≠ some b) (h2 : r = none ∨ r ≠ row) : Qu w' b r s l := by
  obtain ⟨d, hq, k1, k2⟩ := h.ex
  obtain ⟨v, a1, a2, a3⟩ := hq.ex
  exact ⟨h.slot, h.sorted, h.sm, d, ⟨⟨v, a1.grown hg h1, a2.kept hg (by rw [a3]; exact h2), a3⟩, hq.ne, hq.sm⟩, k1, k2⟩

set_option maxRecDepth 10000 in
set_option maxHeartbeats 2000000 in
theorem due_any (w : World) (b : Nat) (r : Option Nat) (s : Int) (l : List Tk) (now : Int) (h : Qu w b r s l) :
    Calls Try.prog 15 #[.pointer (some ⟨b, 0, none⟩), .int .i64 now] w fun e w' => ∃ v, e = .returned v ∧
      w'.ownsRow w.heap.size 3 1 v (dueL now l).length ((dueL now l).map fun p => .int .i64 p.2) ∧ Qu w' b r s (notDue now l) ∧ Keep2 w w' b r := by
  obtain ⟨i0, hi, hz0, hz1, hz2⟩ := info_parts Try.info3
  have hlt := h.lt; have hsm := h.sm
  have H := hid h; have HR := hid h.rlt; clear h
  go_enter Try.func15, Try.ntmps15
  go_wp2_with fail
  go_loopw [4] (fun v wr => ∃ m k : List Tk, Hid (l = m ++ k) ∧ Hid (dueL now l = m ++ dueL now k) ∧ Hid (notDue now l = notDue now k) ∧ Hid (wr.ownsRow w.heap.size 3 1 v m.length (m.map fun p => .int .i64 p.2)) ∧ Hid (Qu wr b r s k) ∧ Hid (Keep2 w wr b r))
    (fun v _ => l.length - lenOf v)
  case atStart => exact ⟨[], l, rfl, rfl, rfl, World.ownsRow_nil _ _ _ _, H, Keep2.refl _ _ _⟩
  case round =>
    obtain ⟨m, k, hl, hd, hn, ho, hq, hk⟩ := hrel
    obtain ⟨a4, c4, rfl⟩ := owns_ex ho.out
    obtain ⟨c0, a, c, c1, hc⟩ := hq.out.cells
    have hs := hq.out.slot.1
    have hll : Hid (l.length = m.length + k.length) := by rw [Hid, hl.out, List.length_append]
    cases k with
    | nil =>
      clear hc
      go_wp2_with fail
      refine (none_valid _ b s c0 hs).mono ?_; rintro e w1 ⟨rfl, rfl⟩
      go_wp2_with fail
      go_ret
      rw [hd.out, hn.out]
      exact ⟨_, rfl, by simpa [dueL] using ho.out, hq.out, hk.out⟩
    | cons p k =>
      obtain ⟨g, rfl, cg⟩ := hc p k rfl
      clear hc
      have hkl : k.length ≤ 899 := by have := hll.out; simp at this; omega
      by_cases hle : p.1 ≤ now
      · go_wp2_with fail
        refine (none_valid _ b s c0 hs).mono ?_; rintro e w1 ⟨rfl, rfl⟩
        go_wp2_with fail
        obtain ⟨d, hqs, hhs, hps⟩ := hq.out.ex
        obtain ⟨h0, hg0⟩ := root_eq hhs hps hq.out.sorted
        have HPS := hid hps; have HQS := hid hqs; have HHS := hid hhs; have HG0 := hid hg0; have H0 := hid h0
        clear hqs hhs hps hg0 h0 c0 c1 cg
        refine (hpop_any b r s d wr HQS.out H0.out HHS.out).mono ?_
        rintro e w1 ⟨rfl, d', hq1, hp1, hh1, hk1⟩
        rw [HG0.out]
        rw [HG0.out] at hp1
        have HQ1 := hid (pop_qu hq.out.slot hkl hq.out.sorted HPS.out hq1 hp1 hh1)
        have HK1 := hid (hk.out.trans hk1 (fun x hx => .inl hx))
        have hown1 := hid (hk1.owns ho.out (fun e => by have := (ho.out.lt b e).1; omega) (by
          rcases hv : (Value.slice a4 m.length c4).ownBlock with _ | x
          · exact .inl rfl
          · right; intro e; have := (ho.out.lt x hv).1; have := HR.out x e.symm; omega))
        have hsz1 : Hid (wr.heap.size ≤ w1.heap.size) := hk1.size
        have ta := assert60 p.1 p.2
        have tf := field60 p.1 p.2
        clear hq1 hp1 hh1 hk1
        have hml : m.length < 900 := by have := hll.out; simp at this; omega
        go_wp2_with (at_builtin; refine wpList_append_own _ rfl _ _ 38 rfl w.heap.size 3 i0 (.int .i64 0) 1 8 Try.underlying38 hi hz0 hz1 hz2 rfl (by decide) _ m.length _ rfl (hown1.out.alloc _) ⟨w1.heap.size, 0, none⟩ 1 1 [.int .i64 p.2] rfl rfl (cell_one_new _ _ _) (by simp [Value.oneCell']) (by unfold maxLen; omega) (by omega) (by have := HK1.out.size; simp; omega) ?_; intro v' w2 hown2 hgrow2 _)
        have HO2 := hid hown2; have HG2 := hid hgrow2
        clear hown2 hgrow2 ta tf
        go_wp2_with fail
        go_roundw
        case rel =>
          have hrow : ∀ x, (Value.slice a4 m.length c4).ownBlock = some x → w.heap.size ≤ x := fun x hx => (ho.out.lt x hx).1
          have hne : (Value.slice a4 m.length c4).ownBlock ≠ some b := fun e => by have := hrow b e; omega
          have hne2 : r = none ∨ r ≠ (Value.slice a4 m.length c4).ownBlock := by
            rcases r with _ | x
            · exact .inl rfl
            · right; intro e; have := hrow x e.symm; have := HR.out x rfl; omega
          have hq2 : Qu w2 b r s k := (HQ1.out.call ((Below.refl _ _).alloc (Nat.le_refl _) (.cells #[.int .i64 p.2] 3))).grown HG2.out hne hne2
          have hk2 : Keep2 w w2 b r := by
            refine (HK1.out.alloc (.cells #[.int .i64 p.2] 3)).trans (grownBy_keep2 HG2.out b) (fun x hx => .inr (hrow x hx))
          exact ⟨m ++ [p], k, by rw [Hid, hl.out]; simp, by rw [Hid, hd.out, dueL_cons_yes hle]; simp, by rw [Hid, hn.out, notDue_cons_yes hle], by rw [Hid]; simpa using HO2.out, hq2, hk2⟩
        case measure =>
          have := owns_len HO2.out; have := hll.out
          simp [lenOf] at *; omega
      · go_wp2_with fail
        refine (none_valid _ b s c0 hs).mono ?_; rintro e w1 ⟨rfl, rfl⟩
        go_wp2_with fail
        go_ret
        rw [hd.out, hn.out, dueL_cons_no (Int.not_le.2 hle), notDue_cons_no (Int.not_le.2 hle)]
        exact ⟨_, rfl, by simpa using ho.out, hq.out, hk.out⟩
end Go.Proofs.Ytjpkglgbcflbnaa
