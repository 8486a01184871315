/- Small lemmas of my own on worlds: a block that is known whole, cells behind calls that only add memory. No program in sight. -/
import Derived.WalkKit
import Derived.WalkSpells
import Derived.WalkLawsBesides
import Derived.LoopN
import Derived.StillTailTactics
import Derived.Deep.QuietTactic
import Derived.BigQuiet
namespace Go.Proofs.Ytjpkglgbcflbnaa
open Go.RowKit

theorem hid {p : Prop} (h : p) : Hid p := h

theorem bcell {W w1 : World} (hb : Below W.heap.size W w1) : (∀ b o, b < W.heap.size → w1.cell? ⟨b, o, none⟩ = W.cell? ⟨b, o, none⟩) ∧ (∀ b o, b < W.heap.size → w1.frozen? ⟨b, o, none⟩ = W.frozen? ⟨b, o, none⟩) :=
  ⟨fun b o h => hb.cell (p := ⟨b, o, none⟩) h, fun b o h => hb.frozen (p := ⟨b, o, none⟩) h⟩

/-- Two calls one behind the other, each of which leaves what it finds. -/
theorem Below.next {w w1 w2 : World} (h : Below w.heap.size w w1) (k : Below w1.heap.size w1 w2) : Below w.heap.size w w2 := h.trans (k.mono h.size)

/-- Block b is known whole. -/
def Blk (w : World) (b : Nat) (cs : Array Value) (t : TypeId) : Prop := w.heap[b]? = some (.cells cs t (0, 0))

theorem Blk.lt {w : World} {b : Nat} {cs : Array Value} {t : TypeId} (h : Blk w b cs t) : b < w.heap.size := by
  unfold Blk at h
  rcases Nat.lt_or_ge b w.heap.size with h' | h'
  · exact h'
  · rw [Array.getElem?_eq_none h'] at h; cases h

theorem Blk.cell {w : World} {b : Nat} {cs : Array Value} {t : TypeId} (h : Blk w b cs t) (i : Nat) : w.cell? ⟨b, i, none⟩ = cs[i]? := by
  unfold Blk at h; simp [World.cell?, h]

theorem Blk.free {w : World} {b : Nat} {cs : Array Value} {t : TypeId} (h : Blk w b cs t) (i : Nat) : w.frozen? ⟨b, i, none⟩ = false := by
  unfold Blk at h; simp [World.frozen?, h]

theorem Blk.new (w : World) (cs : Array Value) (t : TypeId) : Blk (w.alloc (.cells cs t)) w.heap.size cs t := by
  show (w.heap.push _)[w.heap.size]? = _
  simp

theorem Blk.made (w : World) (cs : Array Value) (t : TypeId) {n : Nat} (h : n = w.heap.size) : Blk (w.alloc (.cells cs t)) n cs t := h ▸ Blk.new w cs t

theorem Blk.below {w w' : World} {b B : Nat} {cs : Array Value} {t : TypeId} (h : Blk w b cs t) (hb : Below B w w') (hB : b < B) : Blk w' b cs t := by
  unfold Blk at *; rw [hb.block b hB]; exact h

theorem Blk.call {w w' : World} {b : Nat} {cs : Array Value} {t : TypeId} (h : Blk w b cs t) (hb : Below w.heap.size w w') : Blk w' b cs t := h.below hb h.lt

theorem Blk.alloc {w : World} {b : Nat} {cs : Array Value} {t : TypeId} (h : Blk w b cs t) (o : Obj) : Blk (w.alloc o) b cs t := h.call ((Below.refl _ _).alloc (Nat.le_refl _) o)

theorem Blk.drew {w : World} {b : Nat} {cs : Array Value} {t : TypeId} (h : Blk w b cs t) : Blk w.drew b cs t := h

theorem Blk.set {w : World} {b : Nat} {cs : Array Value} {t : TypeId} (h : Blk w b cs t) (i : Nat) (v : Value) : Blk (w.setCell ⟨b, i, none⟩ v) b (cs.setIfInBounds i v) t := by
  unfold Blk at *; simp [World.setCell, Array.getElem?_modify, h]

theorem Blk.other {w : World} {b : Nat} {cs : Array Value} {t : TypeId} (h : Blk w b cs t) {a : Addr} (ha : a.block ≠ b) (v : Value) : Blk (w.setCell a v) b cs t := by
  unfold Blk at *; simp [World.setCell, Array.getElem?_modify, ha, h]

theorem Blk.grown {w w' : World} {b : Nat} {cs : Array Value} {t : TypeId} {row : Option Nat} (h : Blk w b cs t) (hg : w.grownBy w' row) (hne : row ≠ some b) : Blk w' b cs t := by
  have hl := h.lt
  unfold Blk at *; rw [hg.block b hl (fun e => hne e.symm)]; exact h

/-- A region that draws its order: all but the operations from n on only read; those from n on stand in one order. -/
theorem region_tail {P : Program} {id : Nat} {Q : Exit → Act → World → Prop} {a : Act} {w : World} {l : List Oper} (n : Nat) (hm : P.follows .mixedOrders = true) (hB : Region.lexTailB .any l.toArray n = true)
    (h : wpStill P l.toArray w.drew (fun a' => wpList P l.toArray Q (l.drop n) a' w.drew) (l.take n) a) : (Code.region id l.toArray true).wp P Q a w := wp_region_still_tail n hm hB h

/-- A region that draws its order, whose operations read old memory alone and whose callees answer the same in every world that has grown from this one. -/
theorem region_below {P : Program} {id : Nat} {Q : Exit → Act → World → Prop} {a : Act} {w : World} {l : List Oper} (hm : P.follows .mixedOrders = true) (hB : Region.lexB .any l.toArray = true)
    (h : wpQuiet P l.toArray (fun w' => Below w.heap.size w w') (fun a' => ∀ w', Below w.heap.size w w' → Q .normal a' w') l a) : (Code.region id l.toArray true).wp P Q a w :=
  wp_region_quiet (C := fun w' => Below w.heap.size w w') hm hB ((Below.refl _ _).drew) (by simpa using h)

/-- Behind a call the world is as it was, but for block b, the row r, and new blocks. -/
structure Keep2 (w w' : World) (b : Nat) (r : Option Nat) : Prop where
  os : w'.os = w.os
  tape : w'.tape = w.tape
  output : w'.output = w.output
  size : w.heap.size ≤ w'.heap.size
  block : ∀ k, k < w.heap.size → k ≠ b → some k ≠ r → w'.heap[k]? = w.heap[k]?

theorem Keep2.refl (w : World) (b : Nat) (r : Option Nat) : Keep2 w w b r := ⟨rfl, rfl, rfl, Nat.le_refl _, fun _ _ _ _ => rfl⟩

theorem Below.keep2 {w w' : World} (h : Below w.heap.size w w') (b : Nat) (r : Option Nat) : Keep2 w w' b r := ⟨h.os, h.tape, h.output, h.size, fun k hk _ _ => h.block k hk⟩

theorem grownBy_keep2 {w w' : World} {r : Option Nat} (h : w.grownBy w' r) (b : Nat) : Keep2 w w' b r := ⟨h.os, h.tape, h.output, h.size, fun k hk _ hr => h.block k hk hr⟩

/-- One behind the other: the second may touch the same block, the same row, or a row that was not there at the first. -/
theorem Keep2.trans {w w1 w2 : World} {b : Nat} {r r' : Option Nat} (h : Keep2 w w1 b r) (k : Keep2 w1 w2 b r') (hr : ∀ x, r' = some x → r = some x ∨ w.heap.size ≤ x) : Keep2 w w2 b r :=
  ⟨k.os.trans h.os, k.tape.trans h.tape, k.output.trans h.output, Nat.le_trans h.size k.size, fun i hi hb hne => by
    rw [k.block i (Nat.lt_of_lt_of_le hi h.size) hb (fun e => ?_)]
    · exact h.block i hi hb hne
    · rcases hr i e.symm with e' | e'
      · exact hne e'.symm
      · omega⟩

theorem Keep2.set {w w1 : World} {b : Nat} {r : Option Nat} (h : Keep2 w w1 b r) {a : Addr} (ha : a.block = b ∨ some a.block = r ∨ w.heap.size ≤ a.block) (v : Value) : Keep2 w (w1.setCell a v) b r :=
  ⟨h.os, h.tape, h.output, by simpa [World.setCell] using h.size, fun i hi hb hne => by
    have : i ≠ a.block := fun e => by
      rcases ha with e' | e' | e'
      · exact hb (e.trans e')
      · exact hne (by rw [e]; exact e')
      · omega
    rw [Below.heap_setCell _ _ _ _ this]; exact h.block i hi hb hne⟩

theorem Keep2.alloc {w w1 : World} {b : Nat} {r : Option Nat} (h : Keep2 w w1 b r) (o : Obj) : Keep2 w (w1.alloc o) b r :=
  ⟨h.os, h.tape, h.output, Nat.le_trans h.size (by simp), fun i hi hb hne => by
    rw [Below.heap_alloc _ _ _ (Nat.lt_of_lt_of_le hi h.size)]; exact h.block i hi hb hne⟩

theorem Keep2.drew {w w1 : World} {b : Nat} {r : Option Nat} (h : Keep2 w w1 b r) : Keep2 w w1.drew b r := ⟨h.os, h.tape, h.output, h.size, h.block⟩

theorem Keep2.blk {w w1 : World} {b : Nat} {r : Option Nat} (h : Keep2 w w1 b r) {k : Nat} {cs : Array Value} {t : TypeId} (hk : Blk w k cs t) (hb : k ≠ b) (hr : some k ≠ r) : Blk w1 k cs t := by
  have hl := hk.lt
  unfold Blk at *; rw [h.block k hl hb hr]; exact hk

theorem Keep2.below {w w1 : World} {b : Nat} {r : Option Nat} (h : Keep2 w w1 b r) {B : Nat} (hB : B ≤ w.heap.size) (hb : B ≤ b) (hr : ∀ x, r = some x → B ≤ x) : Below B w w1 :=
  ⟨h.os, h.tape, h.output, h.size, fun k hk => h.block k (by omega) (by omega) (fun e => by have := hr k e.symm; omega)⟩

/-- What owns a row goes on owning it where the row's block is left alone. -/
theorem Keep2.owns {w w1 : World} {b : Nat} {r : Option Nat} (h : Keep2 w w1 b r) {base : Nat} {e : TypeId} {size : Nat} {v : Value} {n : Nat} {xs : List Value} (hv : w.ownsRow base e size v n xs) (hb : v.ownBlock ≠ some b) (hr : v.ownBlock = none ∨ v.ownBlock ≠ r) : w1.ownsRow base e size v n xs := by
  refine ⟨hv.1, ?_⟩
  rcases hv.2 with hn | ⟨g, cap, cur, rfl, hbs, hgg, rest⟩
  · exact .inl hn
  · refine .inr ⟨g, cap, cur, rfl, hbs, ?_, rest⟩
    have hlt : g < w.heap.size := (Array.getElem?_eq_some_iff.1 hgg).1
    rw [h.block g hlt (fun e => hb (by simp [Value.ownBlock, e])) (by simpa [Value.ownBlock] using hr)]
    exact hgg

theorem owns_below {w w1 : World} {base : Nat} {e : TypeId} {size : Nat} {v : Value} {n : Nat} {xs : List Value} (hv : w.ownsRow base e size v n xs) {B : Nat} (h : Below B w w1) (hB : ∀ k, v.ownBlock = some k → k < B) : w1.ownsRow base e size v n xs := by
  refine ⟨hv.1, ?_⟩
  rcases hv.2 with hn | ⟨g, cap, cur, rfl, hbs, hgg, rest⟩
  · exact .inl hn
  · refine .inr ⟨g, cap, cur, rfl, hbs, ?_, rest⟩
    rw [h.block g (hB g (by simp [Value.ownBlock]))]
    exact hgg

theorem owns_lt {w : World} {base : Nat} {e : TypeId} {size : Nat} {v : Value} {n : Nat} {xs : List Value} (hv : w.ownsRow base e size v n xs) : ∀ k, v.ownBlock = some k → k < w.heap.size := fun k hk => (hv.lt k hk).2

theorem owns_call {w w1 : World} {base : Nat} {e : TypeId} {size : Nat} {v : Value} {n : Nat} {xs : List Value} (hv : w.ownsRow base e size v n xs) (h : Below w.heap.size w w1) : w1.ownsRow base e size v n xs := owns_below hv h (owns_lt hv)

end Go.Proofs.Ytjpkglgbcflbnaa
