/- The two queues of the law SchedActs side by side: what a call to one leaves of the other. No walk. -/
import Derived.Test.YtjpkglgbcflbnaaRefAdd
import Derived.Test.YtjpkglgbcflbnaaCopy
namespace Go.Proofs.Ytjpkglgbcflbnaa
open Go.RowKit

theorem Qu.keep2 {w w1 : World} {b b2 : Nat} {r r2 : Option Nat} {s : Int} {l : List Tk} (h : Qu w b r s l) (k : Keep2 w w1 b2 r2) (h1 : b ≠ b2) (h2 : r2 ≠ some b) (h3 : r ≠ some b2) (h4 : ∀ x, r = some x → r2 ≠ some x) : Qu w1 b r s l := by
  obtain ⟨d, hq, k1, k2⟩ := h.ex
  obtain ⟨v, a1, a2, a3⟩ := hq.ex
  refine ⟨h.slot, h.sorted, h.sm, d, ⟨⟨v, k.blk a1 h1 (fun e => h2 e.symm), k.owns a2 (by rw [a3]; exact h3) ?_, a3⟩, hq.ne, hq.sm⟩, k1, k2⟩
  rw [a3]
  cases r with
  | none => exact .inl rfl
  | some x => exact .inr (fun e => h4 x rfl e.symm)

theorem RQ.keep2 {w w1 : World} {b b2 : Nat} {r r2 : Option Nat} {s : Int} {l : List Tk} (h : RQ w b r s l) (k : Keep2 w w1 b2 r2) (h1 : b ≠ b2) (h2 : r2 ≠ some b) (h3 : r ≠ some b2) (h4 : ∀ x, r = some x → r2 ≠ some x) : RQ w1 b r s l := by
  obtain ⟨v, a1, a2, a3⟩ := h.ex
  refine ⟨h.sm, ⟨v, k.blk a1 h1 (fun e => h2 e.symm), k.owns a2 (by rw [a3]; exact h3) ?_, a3⟩, h.ne⟩
  rw [a3]
  cases r with
  | none => exact .inl rfl
  | some x => exact .inr (fun e => h4 x rfl e.symm)

/-- Both queues, made since w0, share nothing. -/
structure PP (w0 w : World) (b : Nat) (r : Option Nat) (d : Nat) (t : Option Nat) (s : Int) (l k : List Tk) : Prop where
  q : Qu w b r s l
  o : RQ w d t s k
  below : Below w0.heap.size w0 w
  b0 : w0.heap.size ≤ b
  r0 : ∀ x, r = some x → w0.heap.size ≤ x
  d0 : w0.heap.size ≤ d
  t0 : ∀ x, t = some x → w0.heap.size ≤ x
  bd : b ≠ d
  bt : t ≠ some b
  rd : r ≠ some d
  rt : ∀ x, r = some x → t ≠ some x

theorem PP.call {w0 w w1 : World} {b d : Nat} {r t : Option Nat} {s : Int} {l k : List Tk} (h : PP w0 w b r d t s l k) (hb : Below w.heap.size w w1) : PP w0 w1 b r d t s l k :=
  ⟨h.q.call hb, h.o.call hb, h.below.trans (hb.mono h.below.size), h.b0, h.r0, h.d0, h.t0, h.bd, h.bt, h.rd, h.rt⟩

theorem PP.stepQ {w0 w w1 : World} {b d : Nat} {r r2 t : Option Nat} {s : Int} {l l2 k : List Tk} (h : PP w0 w b r d t s l k) (hk : Keep2 w w1 b r) (hq : Qu w1 b r2 s l2) (hr : ∀ x, r2 = some x → r = some x ∨ w.heap.size ≤ x) : PP w0 w1 b r2 d t s l2 k := by
  have hd := h.o.lt
  refine ⟨hq, h.o.keep2 hk h.bd.symm h.rd h.bt (fun x e1 e2 => h.rt x e2 e1), h.below.trans (hk.below h.below.size h.b0 h.r0), h.b0, fun x e => ?_, h.d0, h.t0, h.bd, h.bt, fun e => ?_, fun x e1 e2 => ?_⟩
  · rcases hr x e with e1 | e1
    · exact h.r0 x e1
    · exact Nat.le_trans h.below.size e1
  · rcases hr d e with e1 | e1
    · exact h.rd e1
    · omega
  · rcases hr x e1 with e3 | e3
    · exact h.rt x e3 e2
    · have := h.o.rlt x e2; omega

theorem PP.stepO {w0 w w1 : World} {b d : Nat} {r t t2 : Option Nat} {s : Int} {l k k2 : List Tk} (h : PP w0 w b r d t s l k) (hk : Keep2 w w1 d none) (ho : RQ w1 d t2 s k2) (ht : ∀ x, t2 = some x → w.heap.size ≤ x) : PP w0 w1 b r d t2 s l k2 := by
  have hb := h.q.lt
  refine ⟨h.q.keep2 hk h.bd (fun e => by cases e) h.rd (fun x _ e => by cases e), ho, h.below.trans (hk.below h.below.size h.d0 (fun x e => by cases e)), h.b0, h.r0, h.d0, fun x e => Nat.le_trans h.below.size (ht x e), h.bd, fun e => ?_, h.rd, fun x e1 e2 => ?_⟩
  · have := ht b e; omega
  · have := h.q.rlt x e1; have := ht x e2; omega

theorem PP.copyQ {w0 w w1 w2 : World} {b d b' : Nat} {r t r' : Option Nat} {s : Int} {l k : List Tk} (h : PP w0 w b r d t s l k) (hq : Qu w1 b' r' s l) (hb' : w.heap.size ≤ b') (hr' : ∀ x, r' = some x → w.heap.size ≤ x) (k1 : Below w.heap.size w w1) (k2 : Keep2 w1 w2 b r) : PP w0 w2 b' r' d t s l k := by
  have hb := h.q.lt
  have hd := h.o.lt
  have h1 := h.call k1
  refine ⟨hq.keep2 k2 (by omega) (fun e => ?_) (fun e => ?_) (fun x e1 e2 => ?_), h1.o.keep2 k2 h.bd.symm h.rd h.bt (fun x e1 e2 => h.rt x e2 e1), h1.below.trans (k2.below h1.below.size h.b0 h.r0), Nat.le_trans h.below.size hb', fun x e => Nat.le_trans h.below.size (hr' x e), h.d0, h.t0, by omega, fun e => ?_, fun e => ?_, fun x e1 e2 => ?_⟩
  · have := h.q.rlt _ e; omega
  · have := hr' _ e; omega
  · have := h.q.rlt _ e2; have := hr' x e1; omega
  · have := h.o.rlt _ e; omega
  · have := hr' _ e; omega
  · have := h.o.rlt _ e2; have := hr' _ e1; omega

theorem PP.copyO {w0 w w1 : World} {b d d' : Nat} {r t t' : Option Nat} {s : Int} {l k : List Tk} (h : PP w0 w b r d t s l k) (ho : RQ w1 d' t' s k) (hd' : w.heap.size ≤ d') (ht' : ∀ x, t' = some x → w.heap.size ≤ x) (k1 : Below w.heap.size w w1) : PP w0 w1 b r d' t' s l k := by
  have hb := h.q.lt
  refine ⟨h.q.call k1, ho, h.below.trans (k1.mono h.below.size), h.b0, h.r0, Nat.le_trans h.below.size hd', fun x e => Nat.le_trans h.below.size (ht' x e), by omega, fun e => ?_, fun e => ?_, fun x e1 e2 => ?_⟩
  · have := ht' _ e; omega
  · have := h.q.rlt _ e; omega
  · have := h.q.rlt _ e1; have := ht' _ e2; omega

/-- What Due of the one gives back outlives Due of the other. -/
theorem owns_past {w w1 : World} {b : Nat} {r : Option Nat} {n : Nat} {v : Value} {xs : List Value} {B : Nat} (hv : w.ownsRow B 3 1 v n xs) (hk : Keep2 w w1 b r) (hb : b < B) (hr : ∀ x, r = some x → x < B) : w1.ownsRow B 3 1 v n xs := by
  refine hk.owns hv (fun e => by have := (hv.lt b e).1; omega) ?_
  cases r with
  | none => exact Decidable.em _
  | some x =>
    refine .inr (fun e => ?_)
    have := (hv.lt x e).1; have := hr x rfl; omega

theorem owns_ints {w : World} {B : Nat} {v : Value} {now : Int} {l : List Tk} (h : w.ownsRow B 3 1 v (dueL now l).length ((dueL now l).map fun p => .int .i64 p.2)) (hs : (dueL now l).length ≤ 1000000) : IsInts w v ((dueL now l).map (·.2)) := by
  refine IsInts.of_owns (base := B) ?_ (by simpa using hs)
  rw [List.length_map, List.map_map]
  exact h

/-- The acts of a slice that came in. -/
def ReadsA (w : World) (a : Option Addr) (n : Nat) (K T N S : Nat → Int) : Prop := ∀ i, i < n → ∃ g o, a = some ⟨g, o, none⟩ ∧ g < w.heap.size ∧
  w.cell? ⟨g, o + i * 4, none⟩ = some (.int .i64 (K i)) ∧ w.cell? ⟨g, o + i * 4 + 1, none⟩ = some (.int .i64 (T i)) ∧ w.cell? ⟨g, o + i * 4 + 2, none⟩ = some (.int .i64 (N i)) ∧ w.cell? ⟨g, o + i * 4 + 3, none⟩ = some (.int .i64 (S i))
end Go.Proofs.Ytjpkglgbcflbnaa
