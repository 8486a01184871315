/- append of reference rows onto a row of the call's own, whatever the source's length. -/
import Derived.Test.YtjpkglgbcflbnaaRef
import Derived.Maps.AppendAt
import Derived.Deep.AppendLies
namespace Go.Proofs.Ytjpkglgbcflbnaa
open Go.RowKit

theorem Try.info73 : (Try.prog.info? 73).map (fun i => (i.zero, i.size, i.bytes)) = some (some (.agg #[.int .i64 0, .int .i64 0]), 2, 16) := by kernel_rfl

/-- A source of m elements, the cells news. -/
structure Src (w : World) (A : Option Addr) (m : Nat) (news : List Value) : Prop where
  len : news.length = m * 2
  one : ∀ u ∈ news, u.oneCell' = true
  cell : ∀ j u, news[j]? = some u → ∃ ad, A = some ad ∧ w.cell? (ad.add j) = some u

theorem app_run (w : World) (ty : TypeId) (v : Value) (n : Nat) (xs : List Value) (hown : w.ownsRow 0 73 2 v n xs) (A : Option Addr) (m c : Nat) (news : List Value) (hs : Src w A m news) (hnm : n + m ≤ 1000) :
    ∃ v' w', (Builtin.append_ #[69, 69] ty #[v, .slice A m c]).run Try.prog w = .ok v' w' ∧ w'.ownsRow 0 73 2 v' (n + m) (xs ++ news) ∧ w.grownBy w' v.ownBlock ∧ (v'.ownBlock = v.ownBlock ∨ v'.ownBlock = some w.heap.size) := by
  obtain ⟨i0, hi, hz0, hz1, hz2⟩ := info_parts Try.info73
  rcases A with _ | ad
  · have hn : news = [] := by
      cases news with
      | nil => rfl
      | cons u _ => obtain ⟨_, h, _⟩ := hs.cell 0 u rfl; cases h
    have hm : m = 0 := by have := hs.len; rw [hn] at this; simp at this; omega
    subst hn hm
    refine ⟨v, w, ?_, by simpa using hown, ⟨rfl, rfl, rfl, Nat.le_refl _, fun _ _ _ => rfl⟩, .inl rfl⟩
    rcases hown.2 with ⟨rfl, rfl⟩ | ⟨g, cap, cur, rfl, _, _, hnc, _⟩
    · simp [Builtin.append_, run_underlying Try.underlying69, sizeOf, typeInfo, hi, Builtin.lenOf, Builtin.firstCells]
    · simp [Builtin.append_, run_underlying Try.underlying69, sizeOf, typeInfo, hi, Builtin.lenOf, Builtin.firstCells, hnc, storeCells]
  · have hcells : ∀ j u, news[j]? = some u → w.cell? (ad.add j) = some u := fun j u hu => by
      obtain ⟨ad', h, hc⟩ := hs.cell j u hu
      cases h; exact hc
    obtain ⟨v', w', h1, h2, h3, _, h5⟩ := run_append_own_at (P := Try.prog) w 0 69 ty 73 i0 (.agg #[.int .i64 0, .int .i64 0]) 2 16 Try.underlying69 hi hz0 hz1 hz2 rfl (by decide) v n xs hown ad m c news hs.len hcells hs.one (by unfold maxLen; omega) (by omega) (Nat.zero_le _)
    exact ⟨v', w', h1, h2, h3, h5⟩

theorem app_wp {w : World} {o : Oper} {a : Act} {K : Act → World → Prop} {Q : Exit → Act → World → Prop} (s x : Operand) (ho : o.op = .call { callee := .builtin .append, args := #[s, x], argTypes := #[69, 69] })
    (v : Value) (n : Nat) (xs : List Value) (hs : a.eval s = v) (hown : w.ownsRow 0 73 2 v n xs) (A : Option Addr) (m c : Nat) (news : List Value) (hx : a.eval x = .slice A m c) (hr : Src w A m news) (hnm : n + m ≤ 1000)
    (h : ∀ v' w', w'.ownsRow 0 73 2 v' (n + m) (xs ++ news) → w.grownBy w' v.ownBlock → (v'.ownBlock = v.ownBlock ∨ v'.ownBlock = some w.heap.size) → K (a.put o.dst v') w') : o.wp Try.prog a w K Q := by
  obtain ⟨v', w', hrun, h2, h3, h4⟩ := app_run w o.type v n xs hown A m c news hr hnm
  unfold Oper.wp execOp
  simp only [ho, resolve, invoke, builtin, Sem.run_bind, Sem.run_pure, Result.andThen_ok, List.map_toArray, List.map_cons, List.map_nil, hs, hx, hrun]
  exact h v' w' h2 h3 h4

theorem app_list {w : World} {ops : Array Oper} {rest : List Oper} {o : Oper} {a : Act} {Q : Exit → Act → World → Prop} (hgd : o.guard = none) (s x : Operand) (ho : o.op = .call { callee := .builtin .append, args := #[s, x], argTypes := #[69, 69] })
    (v : Value) (n : Nat) (xs : List Value) (hs : a.eval s = v) (hown : w.ownsRow 0 73 2 v n xs) (A : Option Addr) (m c : Nat) (news : List Value) (hx : a.eval x = .slice A m c) (hr : Src w A m news) (hnm : n + m ≤ 1000)
    (h : ∀ v' w', w'.ownsRow 0 73 2 v' (n + m) (xs ++ news) → w.grownBy w' v.ownBlock → (v'.ownBlock = v.ownBlock ∨ v'.ownBlock = some w.heap.size) → wpList Try.prog ops Q rest (a.put o.dst v') w') : wpList Try.prog ops Q (o :: rest) a w :=
  wpList_plain hgd fun _ hK => app_wp s x ho v n xs hs hown A m c news hx hr hnm fun v' w' h2 h3 h4 => hK _ _ (h v' w' h2 h3 h4)

theorem app_step {w : World} {ops : Array Oper} {o : Oper} {a : Act} {K : Act → World → Prop} {Q : Exit → Act → World → Prop} {E : Prop} (hgd : o.guard = none) (s x : Operand) (ho : o.op = .call { callee := .builtin .append, args := #[s, x], argTypes := #[69, 69] })
    (v : Value) (n : Nat) (xs : List Value) (hs : a.eval s = v) (hown : w.ownsRow 0 73 2 v n xs) (A : Option Addr) (m c : Nat) (news : List Value) (hx : a.eval x = .slice A m c) (hr : Src w A m news) (hnm : n + m ≤ 1000)
    (h : ∀ v' w', w'.ownsRow 0 73 2 v' (n + m) (xs ++ news) → w.grownBy w' v.ownBlock → (v'.ownBlock = v.ownBlock ∨ v'.ownBlock = some w.heap.size) → K (a.put o.dst v') w') :
    if Region.wanted o (yielded ops a.tmps) = true then Oper.wp Try.prog o a w K Q else E := by
  have hw : Region.wanted o (yielded ops a.tmps) = true := by simp [Region.wanted, hgd]
  rw [if_pos hw]
  exact app_wp s x ho v n xs hs hown A m c news hx hr hnm h

/-- What a slice of a queue's row holds. -/
theorem src_of_owns {w : World} {a : Option Addr} {c : Nat} {l : List Tk} (h : w.ownsRow 0 73 2 (.slice a l.length c) l.length (flatR l)) : Src w a l.length (flatR l) := by
  refine ⟨by simp, flatR_one l, fun j u hu => ?_⟩
  have hj : j < l.length * 2 := by have := (List.getElem?_eq_some_iff.1 hu).1; simpa using this
  rcases h.2 with ⟨e, h0⟩ | ⟨g, cap, cur, e, _⟩
  · omega
  · simp at e
    obtain ⟨rfl, rfl⟩ := e
    exact ⟨_, rfl, h.cells rfl j u hu⟩

theorem Src.call {w w' : World} {A : Option Addr} {m : Nat} {news : List Value} (h : Src w A m news) (hb : ∀ a v, w.cell? a = some v → w'.cell? a = some v) : Src w' A m news :=
  ⟨h.len, h.one, fun j u hu => by obtain ⟨ad, h1, h2⟩ := h.cell j u hu; exact ⟨ad, h1, hb _ _ h2⟩⟩
end Go.Proofs.Ytjpkglgbcflbnaa
