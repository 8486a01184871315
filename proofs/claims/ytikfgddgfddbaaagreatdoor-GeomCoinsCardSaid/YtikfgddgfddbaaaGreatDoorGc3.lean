/- A law of my own for a range over a function: the iterator's contract says what it hands over in each round, and the body of a round may use it. No program in sight. -/
import Derived.Test.YtikfgddgfddbaaaGreatDoorGc2
import Derived.RangeFuncNested
import Derived.RangeFuncBound
import Derived.RangeFuncCalls
import Derived.RangeFuncLeaves
import Derived.Sort.BigQuietIn
import Derived.RangeFuncBox
import Derived.Shelf.Abstract
import Derived.Shelf.RegionOpen
import Derived.OwnWalkIn
import Derived.TacticsInMore
import Derived.LoopNIn
import Derived.LoopIn
import Derived.Orders
import Derived.WalkKit
import Derived.OrdersHeld
import Derived.Deep.RegionHeld3
namespace Go.Proofs.YtikfgddgfddbaaaGreatDoor
open Go.RowKit

/-- What a function value that is ranged over promises: it hands over an element x behind those of pre only where 'Ok pre x' holds. A round that goes on keeps Kp. All have come: S. A round has said 'no more': Sp. -/
def Feeds {α : Type} (n : Nat) (P : Program) (g : Nat) (lb : Array Value) (encs : α → Array Value) (Kp : World → World → Prop) (Ok : List α → α → Prop) (S Sp : List α → Prop) (w : World) : Prop :=
  ∀ (l : Nat) (J Jx : List α → World → Prop) (W : World), Below w.heap.size w W → AbidesFrom W.heap.size J → AbidesFrom W.heap.size Jx →
    (∀ pre x W1, Ok pre x → J pre W1 → YieldAt Fence.wide (n - 1) P l (encs x) W1 fun e W2 =>
      (e = .returned (.bool true) ∧ J (pre ++ [x]) W2 ∧ Kp W1 W2) ∨ (e = .returned (.bool false) ∧ Jx (pre ++ [x]) W2)) →
    J [] W →
    CallsIn Fence.wide n P g (#[.func (.yield l) #[] #[]] ++ lb) W fun e W2 => (∃ v, e = .returned v) ∧ ((∃ xs, S xs ∧ J xs W2) ∨ (∃ pre, Sp pre ∧ Jx pre W2))

/-- What the rounds leave alone of the statement's own: its record, in the given state, and the block for deferred calls. -/
structure Kept (D : Nat) (r : Loop) (W : World) : Prop where
  loop : W.heap[D + 1]? = some (.loop r)
  calls : W.heap[D]? = some (.deferred (some []))

theorem Kept.cells {D : Nat} {r : Loop} {W W2 : World} {row : Option Nat} (h : Kept D r W) (hg : W.grownBy W2 row) (hr : ∀ k, row = some k → ∃ o : Obj, W.heap[k]? = some o ∧ o.isWalk = true) : Kept D r W2 :=
  ⟨(grownBy_keeps hg hr h.loop rfl).trans h.loop, (grownBy_keeps hg hr h.calls rfl).trans h.calls⟩

theorem Kept.put {D : Nat} {r : Loop} {W : World} (h : Kept D r W) (r2 : Loop) : Kept D r2 (W.putObj (D + 1) (.loop r2)) :=
  ⟨World.putObj_heap_same (Array.getElem?_eq_some_iff.1 h.loop).1, (World.putObj_heap_other (by omega)).trans h.calls⟩

theorem Kept.from {B D : Nat} {r : Loop} {W W2 : World} (h : Kept D r W) (k : KeepsFrom B W W2) (hB : B ≤ D) : Kept D r W2 :=
  ⟨k.same _ _ (by omega) h.loop rfl, k.same _ _ hB h.calls rfl⟩

theorem own_put {β : Type} {B D : Nat} {I : β → World → Prop} (hI : OwnFrom B I) {r : Loop} {s : β} {W : World} (h : Kept D r W) (hB : B ≤ D) (hs : I s W) (o : Obj) : I s (W.putObj (D + 1) o) :=
  hI.putObj o hs (by omega) h.loop rfl

/-- A RANGE OVER A FUNCTION, at the wide fence: the body of a round knows what it is handed. -/
theorem range_ok {α : Type} {P : Program} {n : Nat} {g : Operand} {ps : Array Tmp} {assign body : Code} {Q : Exit → Act → World → Prop} {a : Act} {w : World} (h1 : 1 ≤ n)
    {gf : Nat} {lb : Array Value} (hg : a.eval g = .func (.func gf) #[] lb) (eg : ∀ args w, (callFunc gf args).run P w = .ok (.enter gf args) w)
    {encs : α → Array Value} {Kp : World → World → Prop} {Ok : List α → α → Prop} {S Sp : List α → Prop} {w0 : World} (hseq : Feeds (n - 1) P gf lb encs Kp Ok S Sp w0)
    (hKt : ∀ {A B C : World}, Kp A B → Kp B C → Kp A C) (hKb : ∀ (W : World) (l : Nat) (o o2 : Obj), w.heap.size ≤ l → W.heap[l]? = some o → o.isCells = false → o.isWalk = false → Kp W (W.putObj l o2)) (hb0 : Below w0.heap.size w0 w) (hps : ∀ x, (encs x).size = ps.size)
    (I : List α → World → Prop) (Ix : Code → List α → World → Prop) (hI : OwnFrom w.heap.size I) (hIx : ∀ c, OwnFrom w.heap.size (Ix c)) (h0 : I [] w) (a1 : α → Act)
    (hassign : ∀ (l : Nat) (x : α) (W : World) (K : Act → World → Prop), K (a1 x) W →
      assign.wpIn (Fence.wide.inRound l) (n - 1 - 1) P (Exit.then K (fun _ _ _ => False)) { tmps := (ps.zip (encs x)).foldl (fun t (p, v) => t.setIfInBounds p v) a.tmps, defers := [] } W)
    (hbody : ∀ (l : Nat) (pre : List α) (x : α) (W : World), Ok pre x → I pre W → body.wpIn (Fence.wide.inRound l) (n - 1 - 1) P (ownPostG w.heap.size Kp I Ix (pre ++ [x]) W) (a1 x) W)
    (hdone : ∀ (D : Nat) (xs : List α) (W : World), w.heap.size ≤ D → S xs → I xs W → W.heap[D]? = some (.deferred (some [])) → Q .normal { a with defers := { target := .collected D, args := #[] } :: a.defers } W)
    (hstop : ∀ (D : Nat) (c : Code) (pre : List α) (W : World), w.heap.size ≤ D → Sp pre → Ix c pre W → W.heap[D]? = some (.deferred (some [])) → c.wpIn Fence.wide n P Q { a with defers := { target := .collected D, args := #[] } :: a.defers } W) :
    (Code.rangeFunc g ps assign body).wpIn Fence.wide n P Q a w := by
  refine wpIn_rangeFunc fun fn hfn => ?_
  obtain ⟨R, hR⟩ : ∃ R : LoopState → Option Code → Loop, ∀ s p, R s p = { state := s, pending := p, fn, tmps := a.tmps, params := ps, assign, body, defers := w.heap.size } := ⟨_, fun _ _ => rfl⟩
  have hs : ∀ s p, (R s p).state = s := fun s p => by rw [hR]
  obtain ⟨W1, e1⟩ : ∃ W1, W1 = (w.alloc (.deferred (some []))).alloc (.loop (R .ready none)) := ⟨_, rfl⟩
  have z1 : w.heap.size ≤ W1.heap.size := by rw [e1]; simp; omega
  have k1 : Kept w.heap.size (R .ready none) W1 := by
    rw [e1]
    refine ⟨?_, (Below.heap_alloc _ _ _ (by simp)).trans (World.alloc_heap_new w _)⟩
    have := World.alloc_heap_new (w.alloc (.deferred (some []))) (.loop (R .ready none))
    rwa [World.size_alloc] at this
  have i1 : I [] W1 := by rw [e1]; exact hI.alloc _ (hI.alloc _ h0)
  have b1 : Below w0.heap.size w0 W1 := by
    have : Below w.heap.size w W1 := by rw [e1]; exact ((Below.refl _ w).alloc (Nat.le_refl _) _).alloc (by simp) _
    exact hb0.trans (this.mono hb0.size)
  refine ⟨w.heap.size + 1, [{ target := .collected w.heap.size, args := #[] }], W1, { target := .fn (.func gf) lb, args := #[.func (.yield (w.heap.size + 1)) #[] #[]] }, W1, gf, #[.func (.yield (w.heap.size + 1)) #[] #[]] ++ lb, W1, ?_, ?_, fun f hf => trivial, ?_, fun _ => h1, ?_⟩
  · have := run_enterLoop_outer (P := P) (w := w) fn a.tmps ps assign body
    rw [e1, hR]; exact this
  · simp only [resolve, hg]
    simp [go_sem]
  · simp [invoke, go_sem, eg]
  · refine (hseq (w.heap.size + 1) (fun pre W => I pre W ∧ Kept w.heap.size (R .ready none) W) (fun pre W => ∃ c, Ix c pre W ∧ Kept w.heap.size (R .done (some c)) W) W1 b1
      (fun s A B row hs hg2 hr => ⟨hI s A B row hs.1 hg2 (fun k e => ?_), hs.2.cells hg2 (fun k e => (hr k e).2)⟩)
      (fun s A B row hs hg2 hr => ?_) (fun pre x W hok hJ => ?_) ⟨i1, k1⟩).mono ?_
    · obtain ⟨h2, o, h3, h4⟩ := hr k e
      exact ⟨Nat.le_trans z1 h2, o, h3, Obj.not_cells_of_walk h4⟩
    · obtain ⟨c, hc, hk⟩ := hs
      refine ⟨c, hIx c s A B row hc hg2 (fun k e => ?_), hk.cells hg2 (fun k e => (hr k e).2)⟩
      obtain ⟨h2, o, h3, h4⟩ := hr k e
      exact ⟨Nat.le_trans z1 h2, o, h3, Obj.not_cells_of_walk h4⟩
    · obtain ⟨hi, hk⟩ := hJ
      have hy := run_yield (P := P) (args := encs x) hk.loop (by rw [hR]; exact hps x)
      have kb := hk.put (R .busy none)
      have bg := run_beginRound (P := P) hk.loop (hs _ _)
      rw [show ({ R .ready none with state := .busy } : Loop) = R .busy none by rw [hR, hR]] at bg
      have kk : Kp W (W.putObj (w.heap.size + 1) (.loop (R .busy none))) := hKb _ _ _ _ (by omega) hk.loop rfl rfl
      rw [hR] at hy
      refine ⟨fn, _, assign, body, hy, roundIn_of_wpIn hfn (hassign _ x W _ ⟨_, bg, ?_⟩)⟩
      refine wpIn_mono (hbody _ pre x _ hok (own_put hI hk (Nat.le_refl _) hi _)) ?_
      have fin : ∀ (j : Option Code) (W3 : World), Kept w.heap.size (R .busy none) W3 → (Instr.endRound (w.heap.size + 1) j).run P W3 = .ok (.bool j.isNone) (W3.putObj (w.heap.size + 1) (.loop (R (if j.isNone then .ready else .done) j))) := fun j W3 h3 => by
        have := run_endRound (P := P) j h3.loop
        rw [this, hR, hR]
      rintro e a3 W3 hp
      cases e with
      | normal =>
        obtain ⟨p1, p2, p3⟩ := hp
        have k3 := kb.from p1 (Nat.le_refl _)
        exact ⟨_, _, fin none W3 k3, .inl ⟨rfl, ⟨own_put hI k3 (Nat.le_refl _) p3 _, k3.put _⟩, hKt (hKt kk p2) (hKb _ _ _ _ (by omega) k3.loop rfl rfl)⟩⟩
      | ret =>
        have k3 := kb.from hp.1 (Nat.le_refl _)
        exact ⟨_, _, fin (some .ret) W3 k3, .inr ⟨rfl, .ret, own_put (hIx _) k3 (Nat.le_refl _) hp.2 _, k3.put _⟩⟩
      | exit id =>
        have k3 := kb.from hp.1 (Nat.le_refl _)
        exact ⟨_, _, fin (some (.exit id)) W3 k3, .inr ⟨rfl, .exit id, own_put (hIx _) k3 (Nat.le_refl _) hp.2 _, k3.put _⟩⟩
      | goto t =>
        have k3 := kb.from hp.1 (Nat.le_refl _)
        exact ⟨_, _, fin (some (.goto t)) W3 k3, .inr ⟨rfl, .goto t, own_put (hIx _) k3 (Nat.le_refl _) hp.2 _, k3.put _⟩⟩
      | panic ch => exact hp.elim
      | outgrown => exact hp.elim
    · have en : ∀ {s p W2}, Kept w.heap.size (R s p) W2 → s ≠ .busy → (Instr.endLoop (w.heap.size + 1)).run P W2 = .ok p (W2.putObj (w.heap.size + 1) (.loop (R .exhausted p))) := fun {s p W2} h2 hne => by
        have := run_endLoop (P := P) h2.loop (by rw [hs]; exact hne)
        rw [this, hR, hR]
      rintro e W2 ⟨⟨v, rfl⟩, ⟨xs, hS, hi, hk⟩ | ⟨pre, hSp, c, hi, hk⟩⟩
      · exact ⟨none, _, en hk (by simp), hdone _ xs _ (Nat.le_refl _) hS (own_put hI hk (Nat.le_refl _) hi _) (hk.put (R .exhausted none)).calls⟩
      · exact ⟨some c, _, en hk (by simp), hstop _ c pre _ (Nat.le_refl _) hSp (own_put (hIx c) hk (Nat.le_refl _) hi _) (hk.put (R .exhausted (some c))).calls⟩

/-- No operation is a defer statement. -/
def noDefer (l : List Oper) : Bool := l.all fun o => match o.op with | .defer _ => false | _ => true

theorem noDefer_at {l : List Oper} (h : noDefer l = true) {i : Nat} {o : Oper} (ho : l.toArray[i]? = some o) : ∀ c, o.op ≠ .defer c := by
  intro c e
  rw [List.getElem?_toArray] at ho
  have := List.all_eq_true.1 h o (List.mem_of_getElem? ho)
  rw [e] at this
  cases this

theorem upon_round {F : Fence} {n : Nat} {P : Program} {o : Oper} {a : Act} {next : Act → World → Prop} {Q : Exit → Act → World → Prop} (l : Nat) : ∀ r : Result Next, o.uponIn F n P a next Q r → o.uponIn (F.inRound l) n P a next Q r
  | .ok (.value _) _, h => h
  | .ok .skip _, h => h
  | .ok (.defer _) _, h => h
  | .ok (.enter _ _) _, h => h
  | .ok (.row _ _) _, h => h
  | .ok (.round _ _ _ _ _) _, h => h
  | .halt (.panic _) _, h => h
  | r, h => by
    unfold Oper.uponIn at *
    split at h <;> first | exact h | (exfalso; exact h)

theorem any_round {F : Fence} {n : Nat} {P : Program} {l : List Oper} {Q : Exit → Act → World → Prop} {md : Region.Mode} (hro : F.round = none) (hd : noDefer l = true) (l0 : Nat) : ∀ (fuel : Nat) (listed : Array Bool) (a : Act) (w : World),
    wpAnyIn F n P md l.toArray Q fuel listed a w → wpAnyIn (F.inRound l0) n P md l.toArray Q fuel listed a w := by
  intro fuel
  induction fuel with
  | zero => exact fun _ _ _ h => h
  | succ fuel ih =>
    rintro listed a w ⟨h1, h2⟩
    refine ⟨h1, fun i hi => ?_⟩
    have h := h2 i hi
    unfold wpOpIn at *
    split at h
    · exact ih _ _ _ h
    · rename_i o he
      split at h
      · rename_i hw
        rw [if_pos hw]
        refine ⟨h.1, ?_⟩
        have h3 := (Oper.wpIn_mono (K' := wpAnyIn (F.inRound l0) n P md l.toArray Q fuel (listed.setIfInBounds i true)) (fun a w h => ih _ a w h) h).2
        rw [hro, Oper.semAt_none] at h3
        rw [Fence.inRound_round, Oper.semAt_some l0 _ o (noDefer_at hd he)]
        exact upon_round l0 _ h3
      · rename_i hw
        rw [if_neg hw]
        exact ⟨h.1, ih _ _ _ h.2⟩

/-- A region that draws its order and only reads, within a round. -/
theorem quiet_round {n : Nat} {P : Program} {id : Nat} {Q : Exit → Act → World → Prop} {a : Act} {w : World} {l : List Oper} {l0 : Nat} (hm : P.follows .mixedOrders = true) (hB : Region.lexB .any l.toArray = true) (hd : noDefer l = true)
    (h : wpQuietIn Fence.wide n P l.toArray (fun w' => ∃ n, w' = w.drewN n) (fun a' => ∀ w', (∃ n, w' = w.drewN n) → Q .normal a' w') l a) : (Code.region id l.toArray true).wpIn (Fence.wide.inRound l0) n P Q a w := by
  have hB2 := hB
  simp only [Region.lexB, Bool.and_eq_true] at hB2
  refine wpIn_region_any hm (any_round rfl hd l0 _ _ _ _ (wpAnyIn_of_quiet (C := fun w' => ∃ n, w' = w.drewN n) (Q := fun a' => ∀ w', (∃ n, w' = w.drewN n) → Q .normal a' w') rfl (fun _ w' hw' h => h w' hw') _ _ _ _ ⟨1, rfl⟩ ?_))
  have := wpAnyQIn_lex (F := Fence.wide) (n := n) (C := fun w' => ∃ n, w' = w.drewN n) (md := .any) hB2.1 l.toArray.toList 0 (Array.replicate l.toArray.size false) a (by simp) (by simpa using hB2.2) (by simpa using h)
  simpa using this
end Go.Proofs.YtikfgddgfddbaaaGreatDoor

/- Walks: slices.Backward over the program's limbs: what the iterator hands over. -/
namespace Go.Proofs.YtikfgddgfddbaaaGreatDoor
open Go.RowKit Go.Shelf
set_option linter.unusedVariables false
attribute [local go_sem] Oper.semAt_some

set_option maxRecDepth 100000 in
set_option maxHeartbeats 2000000 in
/-- slices.Backward: the indices from the last one down, each with what lies there then. -/
theorem back_feeds {Kp : World → World → Prop} {V : Nat → Int → Prop} (n : Nat) (hn : 1 ≤ n) (Bs len cap : Nat) (a : Option Addr) (hlen : len ≤ 9000000000000000000) (hcap : len ≤ cap) (w : World) (hKr : ∀ W, Kp W W) (hKt : ∀ {A B C : World}, Kp A B → Kp B C → Kp A C)
    (hread : ∀ W1 W2, Below w.heap.size w W1 → Kp W1 W2 → W2.cell? ⟨Bs, 0, none⟩ = some (.slice a len cap) ∧ ∀ i, i < len → ∃ g o z, a = some ⟨g, o, none⟩ ∧ W2.cell? ⟨g, o + i, none⟩ = some (.int .u64 z) ∧ V i z) :
    Feeds n Tryz.prog 177 #[.pointer (some ⟨Bs, 0, none⟩)] (fun x : Nat × Int => #[.int .i64 (x.1 : Int), .int .u64 x.2]) Kp (fun pre x => x.1 + 1 + pre.length = len ∧ V x.1 x.2) (fun xs => xs.length = len) (fun _ => True) w := by
  intro l J Jx W hW hJ hJx hY h0
  obtain ⟨hb0, -⟩ := hread W W hW (hKr W)
  have HR := hid hread; have HY := hid hY; have HW := hid hW; have HJ := hid hJ; have HJx := hid hJx
  have HKr := hid hKr; have HKt : Hid (∀ A B C : World, Kp A B → Kp B C → Kp A C) := fun A B C h k => hKt h k
  clear hread hY hW hJ hJx hKr hKt
  refine callsIn_of_wp Tryz.func177 rfl trivial ?_ rfl
  simp only [Tryz.ntmps177, List.size_toArray, List.length_cons, List.length_nil, Nat.reduceAdd, Nat.reduceSub, Array.replicate_succ, Array.replicate_zero, List.push_toArray, List.append_toArray, List.nil_append, List.cons_append]
  gi_wp2
  clear hb0
  gi_loopw [3] (fun i wr => ∃ (k : Nat) (t : Int) (pre : List (Nat × Int)), i = .int .i64 t ∧ t = (k : Int) - 1 ∧ k ≤ len ∧ Hid (pre.length + k = len) ∧ J pre wr ∧ Hid (Kp W wr))
    (fun i _ => (intOf i + 1).toNat)
  case atStart => exact ⟨len, _, [], rfl, rfl, Nat.le_refl _, by rw [Hid]; simp, h0, HKr.out W⟩
  case round =>
    obtain ⟨k, t, pre, rfl, ht, hk, hp, hJs, hK⟩ := hrel
    cases k with
    | zero =>
      obtain rfl : t = -1 := by omega
      clear ht
      gi_wp2
      go_end0
      exact ⟨⟨_, rfl⟩, .inl ⟨pre, by have := hp.out; omega, hJs⟩⟩
    | succ j =>
      obtain rfl : t = (j : Int) := by omega
      clear ht
      obtain ⟨hb, hc⟩ := HR.out W wr HW.out hK.out
      obtain ⟨g, o, z, rfl, hcell, hV⟩ := hc j (by omega)
      clear hc
      obtain ⟨fn, tmps, assign, body, hy, hR⟩ := HY.out pre (j, z) wr ⟨by have := hp.out; omega, hV⟩ hJs
      dsimp only at hy
      have HV := hid hV; clear hV
      gi_wp2
      refine hR.mono ?_
      rintro e W3 (⟨rfl, hJ3, hk3⟩ | ⟨rfl, hJx3⟩)
      · have HK3 := hid (HKt.out _ _ _ hK.out hk3)
        clear hk3
        gi_wp2
        go_roundw
        case rel => exact ⟨j, _, pre ++ [(j, z)], rfl, rfl, by omega, by rw [Hid]; have := hp.out; simp; omega, hJ3, HK3⟩
        case measure => simp [intOf] <;> omega
      · gi_wp2
        refine bodyPost_ret (results_none rfl _ _ _) rfl ?_
        exact ⟨⟨_, rfl⟩, .inr ⟨_, trivial, hJx3⟩⟩

/-- slices.Backward(s): the slice value is boxed; the function value captures the box. -/
theorem back_call (a : Option Addr) (len cap : Nat) (w : World) :
    Calls Tryz.prog 138 #[.slice a len cap] w fun e w' => e = .returned (.func (.func 177) #[] #[.pointer (some ⟨w.heap.size, 0, none⟩)]) ∧ w' = w.alloc (.cells #[.slice a len cap] 100) := by
  go_enter Tryz.func138, Tryz.ntmps138
  go_wp2_with fail
  go_ret
  exact ⟨rfl, rfl⟩

/-- What a round keeps: what lay below n0, and the block bs. -/
def KpB (n0 bs : Nat) (W W2 : World) : Prop := Below n0 W W2 ∧ W2.heap[bs]? = W.heap[bs]?

theorem KpB.refl (n0 bs : Nat) (W : World) : KpB n0 bs W W := ⟨Below.refl _ _, rfl⟩
theorem KpB.trans {n0 bs : Nat} {A B C : World} (h : KpB n0 bs A B) (k : KpB n0 bs B C) : KpB n0 bs A C := ⟨h.1.trans k.1, k.2.trans h.2⟩
theorem KpB.put {n0 bs : Nat} {w : World} (hn : n0 ≤ w.heap.size) (hb : bs < w.heap.size) (W : World) (l : Nat) (o o' : Obj) (hl : w.heap.size ≤ l) (h : W.heap[l]? = some o) (h1 : o.isCells = false) (h2 : o.isWalk = false) : KpB n0 bs W (W.putObj l o') :=
  ⟨belowK_b hn W l o o' hl h h1 h2, World.putObj_heap_other (by omega)⟩
theorem KpB.blk {n0 bs : Nat} {W W2 : World} (h : KpB n0 bs W W2) {cs : Array Value} {t : TypeId} (hb : Blk W bs cs t) : Blk W2 bs cs t := h.2.trans hb

theorem Blk.kept {W W2 : World} {b : Nat} {cs : Array Value} {t : TypeId} {row : Option Nat} (h : Blk W b cs t) (hg : W.grownBy W2 row) (hr : ∀ r, row = some r → ∃ o : Obj, W.heap[r]? = some o ∧ o.isCells = false) : Blk W2 b cs t := by
  refine h.grown hg (fun e => ?_)
  obtain ⟨o, ho, hc⟩ := hr b e
  unfold Blk at h
  rw [h] at ho
  cases ho
  cases hc

/-- The end of a function that holds a range over a function. -/
theorem marks_end {n : Nat} {P : Program} {fn : Func} {R : Ending → World → Prop} {tmps : Array Value} {W : World} {D : Nat} {v : Value} (hK : W.heap[D]? = some (.deferred (some [])))
    (hv : (results fn tmps).run P (W.putObj D (.deferred none)) = .ok v (W.putObj D (.deferred none))) (hR : R (.returned v) (W.putObj D (.deferred none))) :
    bodyPostM Fence.wide n P fn R .ret { tmps := tmps, defers := [{ target := .collected D, args := #[] }] } W :=
  ⟨by simp, .inl ⟨_, _, rfl, run_takeDeferred hK, ⟨v, hv, hR⟩⟩⟩

theorem Blk.put {W : World} {b D : Nat} {cs : Array Value} {t : TypeId} (h : Blk W b cs t) (hK : W.heap[D]? = some (.deferred (some []))) (o : Obj) : Blk (W.putObj D o) b cs t :=
  h.kept (grownBy_putObj' _ D o) (fun r e => by cases e; exact ⟨_, hK, rfl⟩)

theorem Row.put {W : World} {D : Nat} {v : Value} {xs : List Value} (h : Row W v xs) (hK : W.heap[D]? = some (.deferred (some []))) (o : Obj) : Row (W.putObj D o) v xs := by
  obtain ⟨a, c, rfl, h1, h2, h3⟩ := h.ex
  refine ⟨a, c, rfl, h1, h2, fun i x hx => ?_⟩
  obtain ⟨g, og, e, hg, hc⟩ := h3 i x hx
  have hgb := grownBy_putObj' W D o
  exact ⟨g, og, e, Nat.lt_of_lt_of_le hg hgb.size, cell_kept hc hgb (fun r e => by cases e; exact ⟨_, hK, rfl⟩)⟩
theorem IsN.put {k : IntKind} {W : World} {D : Nat} {v : Value} {n : Nat} (h : IsN k W v n) (hK : W.heap[D]? = some (.deferred (some []))) (o : Obj) : IsN k (W.putObj D o) v n := Row.put h hK o
end Go.Proofs.YtikfgddgfddbaaaGreatDoor

/- A region that draws its order, whose last operation waits for all the others: it may be split off. -/
namespace Go.Proofs.YtikfgddgfddbaaaGreatDoor
open Go.RowKit
variable {P : Program} {ops : Array Oper} {oz : Oper} {Q Q' : Exit → Act → World → Prop} {md : Region.Mode}

theorem wp_turn {o : Oper} {a : Act} {w : World} {K K' : Act → World → Prop} (hK : ∀ a w, K a w → K' a w) (hP : ∀ c a w, Q' (.panic c) a w → Q (.panic c) a w) (hL : LetsOut Q' → LetsOut Q)
    (h : o.wp P a w K Q') : o.wp P a w K' Q := by
  unfold Oper.wp at *
  generalize (execOp a.eval o).run P w = r at *
  cases r with
  | ok n w' =>
    cases n <;> simp only [Oper.upon] at h ⊢
    case value u => exact hK _ _ h
    case skip => exact hK _ _ h
    case defer d => exact hK _ _ h
    case enter f args =>
      refine Calls.mono h fun e w'' he => ?_
      cases e with
      | returned u => exact hK _ _ he
      | panicked c => exact hP _ _ _ he
      | outgrown => exact hL he
    case row row args => exact Rows.mono h fun u w'' he => hK _ _ he
  | halt x w' =>
    cases x <;> simp only [Oper.upon] at h ⊢
    case panic u => exact hP _ _ _ h

/-- All are listed. -/
def AllOn (n : Nat) (listed : Array Bool) : Prop := ∀ i, i < n → listed.getD i false = true

theorem all_of_none (hfwd : ∀ i o, ops[i]? = some o → ∀ e ∈ o.after, Region.binds md e = true → e.on < i) {listed : Array Bool} (hs : listed.size = ops.size) (hr : Region.ready md ops listed = []) : AllOn ops.size listed := by
  intro i
  induction i using Nat.strongRecOn with
  | _ i ih =>
    intro hi
    refine Decidable.byContradiction fun hn => ?_
    have hm : i ∈ Region.ready md ops listed := by
      rw [mem_ready]
      refine ⟨?_, ops[i], Array.getElem?_eq_getElem hi, fun e he hb => ih e.on (hfwd i _ (Array.getElem?_eq_getElem hi) e he hb) (by have := hfwd i _ (Array.getElem?_eq_getElem hi) e he hb; omega)⟩
      have h1 : i < listed.size := by omega
      simp [Array.getD, h1] at hn ⊢
      exact hn
    rw [hr] at hm
    cases hm

/-- Whatever is listed, what it waits for is listed too. -/
def Closed (md : Region.Mode) (ops : Array Oper) (listed : Array Bool) : Prop := ∀ j o, ops[j]? = some o → listed.getD j false = true → ∀ e ∈ o.after, Region.binds md e = true → listed.getD e.on false = true

/-- The last waits for i: outright, or over one other. -/
def Waits (md : Region.Mode) (ops : Array Oper) (oz : Oper) (i : Nat) : Prop :=
  ∃ e ∈ oz.after, Region.binds md e = true ∧ (e.on = i ∨ ∃ o, ops[e.on]? = some o ∧ ∃ f ∈ o.after, Region.binds md f = true ∧ f.on = i)

theorem Closed.set {listed : Array Bool} {i : Nat} (h : Closed md ops listed) (hi : i ∈ Region.ready md ops listed) : Closed md ops (listed.setIfInBounds i true) := by
  intro j o ho hj e he hb
  rw [mem_ready] at hi
  obtain ⟨_, o', ho', hall⟩ := hi
  by_cases hji : i = j
  · subst hji
    rw [ho] at ho'
    cases ho'
    exact getD_set_true (hall e he hb)
  · have hj' := hj
    rw [getD_set_ne false hji] at hj'
    exact getD_set_true (h j o ho hj' e he hb)

theorem getD_push_lt {listed : Array Bool} {b : Bool} {i : Nat} {d : Bool} (h : i < listed.size) : (listed.push b).getD i d = listed.getD i d := by
  simp [Array.getD, h, Nat.lt_succ_of_lt h, Array.getElem_push_lt h]

theorem ready_push_all {listed : Array Bool} (hs : listed.size = ops.size) (hall : AllOn ops.size listed) :
    ∀ j, j ∈ Region.ready md (ops.push oz) (listed.push false) → j = ops.size := by
  intro j hj
  rw [mem_ready] at hj
  obtain ⟨h0, o, ho, _⟩ := hj
  have hlt : j < ops.size + 1 := by have := (Array.getElem?_eq_some_iff.1 ho).1; simpa using this
  refine Decidable.byContradiction fun hne => ?_
  have hj' : j < ops.size := by omega
  rw [getD_push_lt (by omega)] at h0
  have := hall j hj'
  have h1 : j < listed.size := by omega
  simp [Array.getD, h1] at h0 this
  rw [h0] at this; cases this

theorem ready_push_some (hz : ∀ e ∈ oz.after, Region.binds md e = true → e.on < ops.size) (hz2 : ∀ i, i < ops.size → Waits md ops oz i) (hfwd : ∀ i o, ops[i]? = some o → ∀ e ∈ o.after, Region.binds md e = true → e.on < i) {listed : Array Bool} (hs : listed.size = ops.size) (hcl : Closed md ops listed) (hn : ¬ AllOn ops.size listed) :
    ∀ j, j ∈ Region.ready md (ops.push oz) (listed.push false) → j ∈ Region.ready md ops listed := by
  intro j hj
  rw [mem_ready] at hj ⊢
  obtain ⟨h0, o, ho, hall⟩ := hj
  have hlt : j < ops.size + 1 := by have := (Array.getElem?_eq_some_iff.1 ho).1; simpa using this
  by_cases hj' : j = ops.size
  · subst hj'
    have : o = oz := by simpa using ho.symm
    subst this
    exact absurd (fun i hi => by
      obtain ⟨e, he, hb, hon⟩ := hz2 i hi
      have h1 := hall e he hb
      have h2 := hz e he hb
      rw [getD_push_lt (by omega)] at h1
      rcases hon with rfl | ⟨o', ho', f, hf, hfb, rfl⟩
      · exact h1
      · exact hcl _ o' ho' h1 f hf hfb) hn
  · have hjl : j < ops.size := by omega
    rw [Array.getElem?_push_lt hjl] at ho
    rw [getD_push_lt (by omega)] at h0
    refine ⟨h0, o, by rw [Array.getElem?_eq_getElem hjl]; exact ho, fun e he hb => ?_⟩
    have h1 := hall e he hb
    have h2 := hfwd j o (by rw [Array.getElem?_eq_getElem hjl]; exact ho) e he hb
    rwa [getD_push_lt (by omega)] at h1

theorem set_push {listed : Array Bool} {i : Nat} (h : i < listed.size) : (listed.push false).setIfInBounds i true = (listed.setIfInBounds i true).push false := by
  apply Array.ext_getElem?
  intro k
  simp only [Array.getElem?_setIfInBounds, Array.getElem?_push, Array.size_push, Array.size_setIfInBounds]
  by_cases hk : i = k
  · subst hk; simp [h, Nat.lt_succ_of_lt h]; omega
  · simp [hk]

/-- THE SPLITTING: what the others leave in 'Q' .normal', the last operation carries on. -/
theorem wpAny_last (hgd : ∀ (i : Nat) (o : Oper), ops[i]? = some o → o.guard = none) (hgz : oz.guard = none)
    (hz : ∀ e ∈ oz.after, Region.binds md e = true → e.on < ops.size) (hz2 : ∀ i, i < ops.size → Waits md ops oz i)
    (hfwd : ∀ i o, ops[i]? = some o → ∀ e ∈ o.after, Region.binds md e = true → e.on < i)
    (hP : ∀ c a w, Q' (.panic c) a w → Q (.panic c) a w) (hL : LetsOut Q' → LetsOut Q) (hN : ∀ a w, Q' .normal a w → oz.wp P a w (fun a w => Q .normal a w) Q ∨ (oz.asks P a w ∧ LetsOut Q)) :
    ∀ (fuel : Nat) (listed : Array Bool) (a : Act) (w : World), listed.size = ops.size → Closed md ops listed → wpAny P md ops Q' fuel listed a w → wpAny P md (ops.push oz) Q (fuel + 1) (listed.push false) a w := by
  have lastStep : ∀ (fuel : Nat) (listed : Array Bool) (a : Act) (w : World), listed.size = ops.size → AllOn ops.size listed → Q' .normal a w → wpAny P md (ops.push oz) Q (fuel + 1) (listed.push false) a w := by
    intro fuel listed a w hs hall hq
    have hmem : ops.size ∈ Region.ready md (ops.push oz) (listed.push false) := by
      rw [mem_ready]
      refine ⟨by rw [← hs]; simp [Array.getD], oz, by simp, fun e he hb => ?_⟩
      have := hz e he hb
      rw [getD_push_lt (by omega)]
      exact hall _ this
    refine ⟨fun h => (by rw [h] at hmem; cases hmem), fun j hj => ?_⟩
    have hje := ready_push_all hs hall j hj
    subst hje
    have hdone : Region.ready md (ops.push oz) ((listed.push false).setIfInBounds ops.size true) = [] := by
      refine List.eq_nil_iff_forall_not_mem.2 fun k hk => ?_
      rw [mem_ready] at hk
      obtain ⟨h0, o, ho, _⟩ := hk
      have hlt : k < ops.size + 1 := by have := (Array.getElem?_eq_some_iff.1 ho).1; simpa using this
      by_cases hk' : k = ops.size
      · subst hk'; simp [Array.getD, hs] at h0
      · have h1 : k < ops.size := by omega
        have h2 := hall k h1
        have h3 : k < listed.size := by omega
        simp [Array.getD, h3, Nat.lt_succ_of_lt h3, Ne.symm hk', Array.getElem_push_lt h3] at h0 h2
        rw [h0] at h2; cases h2
    unfold wpOp
    simp only [Array.getElem?_push_size]
    have hw : Region.wanted oz (yielded (ops.push oz) a.tmps) = true := by simp [Region.wanted, hgz]
    rw [if_pos hw]
    refine (hN a w hq).imp (fun hx => Oper.wp_mono (fun a' w' h' => ?_) hx) id
    cases fuel with
    | zero => exact ⟨hdone, h'⟩
    | succ fuel => exact ⟨fun _ => h', fun k hk => by rw [hdone] at hk; cases hk⟩
  intro fuel
  induction fuel with
  | zero =>
    intro listed a w hs _ h
    exact lastStep 0 listed a w hs (all_of_none hfwd hs h.1) h.2
  | succ fuel ih =>
    intro listed a w hs hcl h
    by_cases hall : AllOn ops.size listed
    · refine lastStep (fuel + 1) listed a w hs hall (h.1 (List.eq_nil_iff_forall_not_mem.2 fun k hk => ?_))
      rw [mem_ready] at hk
      obtain ⟨h0, o, ho, _⟩ := hk
      have h1 := (Array.getElem?_eq_some_iff.1 ho).1
      have h2 := hall k h1
      have h3 : k < listed.size := by omega
      simp [Array.getD, h3] at h0 h2
      rw [h0] at h2; cases h2
    · refine ⟨fun hr => ?_, fun j hj => ?_⟩
      · have : Region.ready md ops listed = [] := List.eq_nil_iff_forall_not_mem.2 fun k hk => by
          have hk2 : k ∈ Region.ready md (ops.push oz) (listed.push false) := by
            rw [mem_ready] at hk ⊢
            obtain ⟨h0, o, ho, hh⟩ := hk
            have h1 := (Array.getElem?_eq_some_iff.1 ho).1
            refine ⟨by rw [getD_push_lt (by omega)]; exact h0, o, by rw [Array.getElem?_push_lt h1, ← Array.getElem?_eq_getElem h1]; exact ho, fun e he hb => ?_⟩
            rw [getD_push_lt (by have := hfwd k o ho e he hb; omega)]
            exact hh e he hb
          rw [hr] at hk2; cases hk2
        exact absurd (all_of_none hfwd hs this) hall
      · have hj' := ready_push_some hz hz2 hfwd hs hcl hall j hj
        have h1 := h.2 j hj'
        have hlt : j < ops.size := by
          rw [mem_ready] at hj'
          obtain ⟨_, o, ho, _⟩ := hj'
          exact (Array.getElem?_eq_some_iff.1 ho).1
        unfold wpOp at h1 ⊢
        rw [Array.getElem?_push_lt hlt]
        rw [Array.getElem?_eq_getElem hlt] at h1
        simp only at h1 ⊢
        have hg := hgd j _ (Array.getElem?_eq_getElem hlt)
        have hw1 : Region.wanted ops[j] (yielded (ops.push oz) a.tmps) = true := by simp [Region.wanted, hg]
        have hw2 : Region.wanted ops[j] (yielded ops a.tmps) = true := by simp [Region.wanted, hg]
        rw [if_pos hw1]
        rw [if_pos hw2] at h1
        rcases h1 with h1 | ⟨h1, h2⟩
        · refine .inl (wp_turn (fun a' w' h' => ?_) hP hL h1)
          rw [set_push (by omega)]
          exact ih _ _ _ (by simp [hs]) (hcl.set hj') h'
        · exact .inr ⟨h1, hL h2⟩

/-- The facts on a region's operations that the splitting asks, as one test. -/
def splitB (ops : Array Oper) (oz : Oper) : Bool :=
  ops.toList.all (fun o => o.guard.isNone) && oz.guard.isNone && oz.after.toList.all (fun e => decide (e.on < ops.size)) &&
  (List.range ops.size).all (fun i => oz.after.toList.any fun e => Region.binds .any e && (e.on == i || (match ops[e.on]? with | some o => o.after.toList.any (fun f => Region.binds .any f && f.on == i) | none => false))) &&
  (List.range ops.size).all (fun i => match ops[i]? with | some o => o.after.toList.all (fun e => decide (e.on < i)) | none => true)

theorem wp_region_split {id : Nat} {a : Act} {w : World} (hm : P.follows .mixedOrders = true) (hB : splitB ops oz = true)
    (hP : ∀ c a w, Q' (.panic c) a w → Q (.panic c) a w) (hL : LetsOut Q' → LetsOut Q) (hN : ∀ a w, Q' .normal a w → oz.wp P a w (fun a w => Q .normal a w) Q ∨ (oz.asks P a w ∧ LetsOut Q))
    (h : wpAny P .any ops Q' ops.size (Array.replicate ops.size false) a { w with drawn := w.drawn + 1 }) : (Code.region id (ops.push oz) true).wp P Q a w := by
  simp only [splitB, Bool.and_eq_true, List.all_eq_true, List.any_eq_true, List.mem_range, decide_eq_true_eq, Option.isNone_iff_eq_none, Array.mem_toList_iff] at hB
  obtain ⟨⟨⟨⟨h1, h2⟩, h3⟩, h4⟩, h5⟩ := hB
  have hl := wpAny_last (P := P) (md := .any) (ops := ops) (oz := oz) (fun i o ho => h1 o (Array.mem_of_getElem? ho)) h2 (fun e he _ => h3 e he)
    (fun i hi => by
      obtain ⟨e, he, hb, hon⟩ := h4 i hi
      refine ⟨e, he, hb, ?_⟩
      simp only [Bool.or_eq_true, beq_iff_eq] at hon
      refine hon.imp (fun h => h) fun hx => ?_
      split at hx
      · rename_i o ho
        simp only [List.any_eq_true, Bool.and_eq_true, beq_iff_eq, Array.mem_toList_iff] at hx
        obtain ⟨f, hf, hfb, hfo⟩ := hx
        exact ⟨o, ho, f, hf, hfb, hfo⟩
      · cases hx)
    (fun i o ho e he _ => by
      have := h5 i (Array.getElem?_eq_some_iff.1 ho).1
      rw [ho] at this
      simp only [List.all_eq_true, Array.mem_toList_iff, decide_eq_true_eq] at this
      exact this e he) hP hL hN ops.size (Array.replicate ops.size false) a { w with drawn := w.drawn + 1 } (by simp) (fun j o _ hj => by simp [Array.getD] at hj) h
  refine wp_region_any hm ?_
  have hr : Array.replicate (ops.push oz).size false = (Array.replicate ops.size false).push false := by
    rw [Array.size_push]
    exact Array.replicate_succ
  rw [hr, Array.size_push]
  exact hl

/-- What the others must leave: the last operation's walk; no panic. -/
def Then1 (P : Program) (ops : Array Oper) (Q : Exit → Act → World → Prop) (oz : Oper) : Exit → Act → World → Prop
  | .normal, a, w => wpList P ops Q [oz] a w
  | .panic _, _, _ => False
  | e, a, w => Q e a w

theorem region_last {id : Nat} {a : Act} {w : World} {l : List Oper} (n : Nat) (hm : P.follows .mixedOrders = true) (hl : l.drop n = [oz]) (hB : splitB (l.take n).toArray oz = true)
    (h : wpAny P .any (l.take n).toArray (Then1 P l.toArray Q oz) (l.take n).toArray.size (Array.replicate (l.take n).toArray.size false) a w.drew) : (Code.region id l.toArray true).wp P Q a w := by
  have he : l.toArray = (l.take n).toArray.push oz := by
    rw [List.push_toArray, ← hl, List.take_append_drop]
  have hgz : oz.guard = none := by
    simp only [splitB, Bool.and_eq_true, Option.isNone_iff_eq_none] at hB
    exact hB.1.1.1.2
  have hr := wp_region_split (P := P) (id := id) (a := a) (w := w) (Q := Q) (Q' := Then1 P l.toArray Q oz) hm hB (fun _ _ _ h => h.elim) (fun ⟨a, w, h⟩ => ⟨a, w, h⟩) (fun a w hq => by
    have hq' : wpList P l.toArray Q [oz] a w := hq
    unfold wpList at hq'
    have hw : Region.wanted oz (yielded l.toArray a.tmps) = true := by simp [Region.wanted, hgz]
    rw [if_pos hw] at hq'
    exact hq') h
  rw [he]
  exact hr

section
variable {F : Fence} {n : Nat}

theorem wpIn_turn {o : Oper} {a : Act} {w : World} {K K' : Act → World → Prop} (hK : ∀ a w, K a w → K' a w) (hP : ∀ c a w, Q' (.panic c) a w → Q (.panic c) a w) (hL : LetsOut Q' → LetsOut Q)
    (h : o.wpIn F n P a w K Q') : o.wpIn F n P a w K' Q := by
  unfold Oper.wpIn at *
  refine ⟨h.1, ?_⟩
  have h := h.2
  generalize (o.semAt F.round a.eval).run P w = r at *
  cases r with
  | ok m w' =>
    cases m <;> simp only [Oper.uponIn] at h ⊢
    case value u => exact hK _ _ h
    case skip => exact hK _ _ h
    case defer d => exact hK _ _ h
    case enter f args =>
      refine ⟨h.1, CallsIn.mono h.2 fun e w'' he => ?_⟩
      cases e with
      | returned u => exact hK _ _ he
      | panicked c => exact hP _ _ _ he
      | outgrown => exact hL he
    case row row args => exact ⟨h.1, RowsIn.mono h.2 fun u w'' he => hK _ _ he⟩
    case round l f tmps ts bd =>
      refine ⟨h.1, RoundIn.mono h.2 fun e w'' he => ?_⟩
      cases e with
      | returned u => exact hK _ _ he
      | panicked c => exact hP _ _ _ he
      | outgrown => exact hL he
  | halt x w' =>
    cases x <;> simp only [Oper.uponIn] at h ⊢
    case panic u => exact hP _ _ _ h

/-- The splitting, within a fence. -/
theorem wpAnyIn_last (hgd : ∀ (i : Nat) (o : Oper), ops[i]? = some o → o.guard = none) (hgz : oz.guard = none)
    (hz : ∀ e ∈ oz.after, Region.binds md e = true → e.on < ops.size) (hz2 : ∀ i, i < ops.size → Waits md ops oz i)
    (hfwd : ∀ i o, ops[i]? = some o → ∀ e ∈ o.after, Region.binds md e = true → e.on < i)
    (hP : ∀ c a w, Q' (.panic c) a w → Q (.panic c) a w) (hL : LetsOut Q' → LetsOut Q) (hN : ∀ a w, Q' .normal a w → oz.wpIn F n P a w (fun a w => Q .normal a w) Q) :
    ∀ (fuel : Nat) (listed : Array Bool) (a : Act) (w : World), listed.size = ops.size → Closed md ops listed → wpAnyIn F n P md ops Q' fuel listed a w → wpAnyIn F n P md (ops.push oz) Q (fuel + 1) (listed.push false) a w := by
  have lastStep : ∀ (fuel : Nat) (listed : Array Bool) (a : Act) (w : World), listed.size = ops.size → AllOn ops.size listed → Q' .normal a w → wpAnyIn F n P md (ops.push oz) Q (fuel + 1) (listed.push false) a w := by
    intro fuel listed a w hs hall hq
    have hmem : ops.size ∈ Region.ready md (ops.push oz) (listed.push false) := by
      rw [mem_ready]
      refine ⟨by rw [← hs]; simp [Array.getD], oz, by simp, fun e he hb => ?_⟩
      have := hz e he hb
      rw [getD_push_lt (by omega)]
      exact hall _ this
    refine ⟨fun h => (by rw [h] at hmem; cases hmem), fun j hj => ?_⟩
    have hje := ready_push_all hs hall j hj
    subst hje
    have hdone : Region.ready md (ops.push oz) ((listed.push false).setIfInBounds ops.size true) = [] := by
      refine List.eq_nil_iff_forall_not_mem.2 fun k hk => ?_
      rw [mem_ready] at hk
      obtain ⟨h0, o, ho, _⟩ := hk
      have hlt : k < ops.size + 1 := by have := (Array.getElem?_eq_some_iff.1 ho).1; simpa using this
      by_cases hk' : k = ops.size
      · subst hk'; simp [Array.getD, hs] at h0
      · have h1 : k < ops.size := by omega
        have h2 := hall k h1
        have h3 : k < listed.size := by omega
        simp [Array.getD, h3, Nat.lt_succ_of_lt h3, Ne.symm hk', Array.getElem_push_lt h3] at h0 h2
        rw [h0] at h2; cases h2
    unfold wpOpIn
    simp only [Array.getElem?_push_size]
    have hw : Region.wanted oz (yielded (ops.push oz) a.tmps) = true := by simp [Region.wanted, hgz]
    rw [if_pos hw]
    refine Oper.wpIn_mono (fun a' w' h' => ?_) (hN a w hq)
    cases fuel with
    | zero => exact ⟨hdone, h'⟩
    | succ fuel => exact ⟨fun _ => h', fun k hk => by rw [hdone] at hk; cases hk⟩
  intro fuel
  induction fuel with
  | zero =>
    intro listed a w hs _ h
    exact lastStep 0 listed a w hs (all_of_none hfwd hs h.1) h.2
  | succ fuel ih =>
    intro listed a w hs hcl h
    by_cases hall : AllOn ops.size listed
    · refine lastStep (fuel + 1) listed a w hs hall (h.1 (List.eq_nil_iff_forall_not_mem.2 fun k hk => ?_))
      rw [mem_ready] at hk
      obtain ⟨h0, o, ho, _⟩ := hk
      have h1 := (Array.getElem?_eq_some_iff.1 ho).1
      have h2 := hall k h1
      have h3 : k < listed.size := by omega
      simp [Array.getD, h3] at h0 h2
      rw [h0] at h2; cases h2
    · refine ⟨fun hr => ?_, fun j hj => ?_⟩
      · have : Region.ready md ops listed = [] := List.eq_nil_iff_forall_not_mem.2 fun k hk => by
          have hk2 : k ∈ Region.ready md (ops.push oz) (listed.push false) := by
            rw [mem_ready] at hk ⊢
            obtain ⟨h0, o, ho, hh⟩ := hk
            have h1 := (Array.getElem?_eq_some_iff.1 ho).1
            refine ⟨by rw [getD_push_lt (by omega)]; exact h0, o, by rw [Array.getElem?_push_lt h1, ← Array.getElem?_eq_getElem h1]; exact ho, fun e he hb => ?_⟩
            rw [getD_push_lt (by have := hfwd k o ho e he hb; omega)]
            exact hh e he hb
          rw [hr] at hk2; cases hk2
        exact absurd (all_of_none hfwd hs this) hall
      · have hj' := ready_push_some hz hz2 hfwd hs hcl hall j hj
        have h1 := h.2 j hj'
        have hlt : j < ops.size := by
          rw [mem_ready] at hj'
          obtain ⟨_, o, ho, _⟩ := hj'
          exact (Array.getElem?_eq_some_iff.1 ho).1
        unfold wpOpIn at h1 ⊢
        rw [Array.getElem?_push_lt hlt]
        rw [Array.getElem?_eq_getElem hlt] at h1
        simp only at h1 ⊢
        have hg := hgd j _ (Array.getElem?_eq_getElem hlt)
        have hw1 : Region.wanted ops[j] (yielded (ops.push oz) a.tmps) = true := by simp [Region.wanted, hg]
        have hw2 : Region.wanted ops[j] (yielded ops a.tmps) = true := by simp [Region.wanted, hg]
        rw [if_pos hw1]
        rw [if_pos hw2] at h1
        refine wpIn_turn (fun a' w' h' => ?_) hP hL h1
        rw [set_push (by omega)]
        exact ih _ _ _ (by simp [hs]) (hcl.set hj') h'

/-- What the others must leave: the last operation's walk; no panic. -/
def ThenIn (n : Nat) (P : Program) (ops : Array Oper) (Q : Exit → Act → World → Prop) (oz : Oper) : Exit → Act → World → Prop
  | .normal, a, w => wpListIn Fence.wide n P ops Q [oz] a w
  | .panic _, _, _ => False
  | e, a, w => Q e a w

/-- A region that draws its order, within a round: all but the last operation only read, the last one waits for all. -/
theorem quiet_last_round {id : Nat} {a : Act} {w : World} {l : List Oper} {l0 : Nat} (k : Nat) (hm : P.follows .mixedOrders = true) (hl : l.drop k = [oz]) (hB : splitB (l.take k).toArray oz = true) (hX : Region.lexB .any (l.take k).toArray = true) (hd : noDefer l = true)
    (h : wpQuietIn Fence.wide n P (l.take k).toArray (fun w' => ∃ n, w' = w.drewN n) (fun a' => ∀ w', (∃ n, w' = w.drewN n) → wpListIn Fence.wide n P l.toArray Q [oz] a' w') (l.take k) a) : (Code.region id l.toArray true).wpIn (Fence.wide.inRound l0) n P Q a w := by
  have he : l.toArray = (l.take k).toArray.push oz := by
    rw [List.push_toArray, ← hl, List.take_append_drop]
  have hX2 := hX
  simp only [Region.lexB, Bool.and_eq_true] at hX2
  have hq := wpAnyQIn_lex (F := Fence.wide) (n := n) (C := fun w' => ∃ n, w' = w.drewN n) (md := .any) hX2.1 (l.take k).toArray.toList 0 (Array.replicate (l.take k).toArray.size false) a (by simp) (by simpa using hX2.2) (show wpQuietIn Fence.wide n P (l.take k).toArray (fun w' => ∃ n, w' = w.drewN n) (fun a' => ∀ w', (∃ n, w' = w.drewN n) → wpListIn Fence.wide n P l.toArray Q [oz] a' w') (l.take k).toArray.toList a from h)
  have hq2 := wpAnyIn_of_quiet (C := fun w' => ∃ n, w' = w.drewN n) (Q := fun a' => ∀ w', (∃ n, w' = w.drewN n) → wpListIn Fence.wide n P l.toArray Q [oz] a' w') (Q' := ThenIn n P l.toArray Q oz) rfl (fun a w' hw' h => h w' hw') _ _ _ ({ w with drawn := w.drawn + 1 } : World) ⟨1, rfl⟩ hq
  have hB0 := hB
  simp only [splitB, Bool.and_eq_true, List.all_eq_true, List.any_eq_true, List.mem_range, decide_eq_true_eq, Option.isNone_iff_eq_none, Array.mem_toList_iff] at hB
  obtain ⟨⟨⟨⟨h1, h2⟩, h3⟩, h4⟩, h5⟩ := hB
  have hlast := wpAnyIn_last (F := Fence.wide) (n := n) (P := P) (md := .any) (ops := (l.take k).toArray) (oz := oz) (Q := Q) (Q' := ThenIn n P l.toArray Q oz) (fun i o ho => h1 o (by simpa using Array.mem_of_getElem? ho)) h2 (fun e he _ => h3 e he)
    (fun i hi => by
      obtain ⟨e, he, hb, hon⟩ := h4 i hi
      refine ⟨e, he, hb, ?_⟩
      simp only [Bool.or_eq_true, beq_iff_eq] at hon
      refine hon.imp (fun h => h) fun hx => ?_
      split at hx
      · rename_i o ho
        simp only [List.any_eq_true, Bool.and_eq_true, beq_iff_eq, Array.mem_toList_iff] at hx
        obtain ⟨f, hf, hfb, hfo⟩ := hx
        exact ⟨o, ho, f, hf, hfb, hfo⟩
      · cases hx)
    (fun i o ho e he _ => by
      have := h5 i (Array.getElem?_eq_some_iff.1 ho).1
      rw [ho] at this
      simp only [List.all_eq_true, Array.mem_toList_iff, decide_eq_true_eq] at this
      exact this e he) (fun _ _ _ h => h.elim) (fun ⟨a, w, h⟩ => ⟨a, w, h⟩) (fun a w hq => by
        have hq' : wpListIn Fence.wide n P l.toArray Q [oz] a w := hq
        unfold wpListIn at hq'
        have hw : Region.wanted oz (yielded l.toArray a.tmps) = true := by simp [Region.wanted, h2]
        simpa [hw, wpListIn] using hq')
    (l.take k).toArray.size (Array.replicate (l.take k).toArray.size false) a { w with drawn := w.drawn + 1 } (by simp) (fun j o _ hj => by simp [Array.getD] at hj) (by simpa using hq2)
  refine wpIn_region_any hm (any_round rfl hd l0 _ _ _ _ ?_)
  have hr : Array.replicate l.toArray.size false = (Array.replicate (l.take k).toArray.size false).push false := by
    rw [he, Array.size_push]
    exact Array.replicate_succ
  rw [hr, he, Array.size_push]
  exact hlast
end

/-- Nothing but the normal way. -/
def Only (Q : Exit → Act → World → Prop) : Exit → Act → World → Prop
  | .normal, a, w => Q .normal a w
  | _, _, _ => False

theorem any_plain {n : Nat} {l : List Oper} : ∀ (fuel : Nat) (listed : Array Bool) (a : Act) (w : World),
    wpAny P md l.toArray (Only Q) fuel listed a w → wpAnyIn Fence.wide n P md l.toArray Q fuel listed a w := by
  intro fuel
  induction fuel with
  | zero => exact fun _ _ _ h => h
  | succ fuel ih =>
    rintro listed a w ⟨h1, h2⟩
    refine ⟨h1, fun i hi => ?_⟩
    have h := h2 i hi
    unfold wpOp at h
    unfold wpOpIn
    split at h
    · rename_i ho
      simp only [ho]
      exact ih _ _ _ h
    · rename_i o ho
      simp only [ho]
      split at h
      · rename_i hw
        rw [if_pos hw]
        rcases h with h | ⟨_, a', w', h⟩
        · refine ⟨fun _ _ => trivial, ?_⟩
          show o.uponIn Fence.wide n P a _ Q ((execOp a.eval o).run P w)
          unfold Oper.wp at h
          generalize (execOp a.eval o).run P w = r at h
          cases r with
          | ok m w' =>
            cases m <;> simp only [Oper.upon, Oper.uponIn] at h ⊢
            case value u => exact ih _ _ _ h
            case skip => exact ih _ _ _ h
            case defer d => exact ih _ _ _ h
            case enter f args =>
              refine ⟨fun hx => (by cases hx), callsIn_wide.2 (Calls.mono h fun e w'' he => ?_)⟩
              cases e with
              | returned u => exact ih _ _ _ he
              | panicked c => exact he.elim
              | outgrown => obtain ⟨_, _, hx⟩ := he; exact hx.elim
            case row row args =>
              refine ⟨fun hx => (by cases hx), fun c cs _ => ?_⟩
              obtain ⟨v, w'', hr, hs⟩ := h c cs
              exact ⟨v, w'', ih _ _ _ hr, stepsIn_wide.2 hs⟩
          | halt x w' =>
            cases x <;> simp only [Oper.upon, Oper.uponIn] at h ⊢
            case panic u => exact h.elim
        · exact h.elim
      · rename_i hw
        rw [if_neg hw]
        exact ⟨fun _ _ => trivial, ih _ _ _ h⟩

/-- The operations yield one after the other, in every world that meets S. -/
def wpHeld (P : Program) (ops : Array Oper) (S : World → Prop) (L : Act → Prop) : List Oper → Act → Prop
  | [], a => L a
  | o :: rest, a => ∃ v, YieldsIf P ops S o v a ∧ wpHeld P ops S L rest (a.put o.dst v)

/-- The first m operations from k on may be taken one after the other. -/
def preB (md : Region.Mode) (ops : Array Oper) : Nat → Nat → Array Bool → Bool
  | 0, _, _ => true
  | m + 1, k, listed => (Region.ready md ops listed).contains k && Region.free md ops listed k && preB md ops m (k + 1) (listed.setIfInBounds k true)

def setAll : Nat → Nat → Array Bool → Array Bool
  | 0, _, listed => listed
  | m + 1, k, listed => setAll m (k + 1) (listed.setIfInBounds k true)

theorem held_lex {S : World → Prop} (hsel : Region.noSelect ops = true) {g : Nat} {w : World} (hS : S w) : ∀ (l : List Oper) (k : Nat) (listed : Array Bool) (a : Act), (∀ j, j < l.length → l[j]? = ops[k + j]?) → preB md ops l.length k listed = true →
    wpHeld P ops S (fun a' => wpAnyH P md ops (Only Q) S g (setAll l.length k listed) a' w) l a → wpAnyH P md ops (Only Q) S (g + l.length) listed a w
  | [], _, _, _, _, _, h => h
  | o :: l, k, listed, a, hl, hB, h => by
    have h0 : ops[k]? = some o := by simpa using (hl 0 (by simp)).symm
    simp only [List.length_cons, preB, Bool.and_eq_true] at hB
    obtain ⟨⟨hr, hf⟩, hB'⟩ := hB
    obtain ⟨v, hy, hrest⟩ := h
    have hQ : ∀ c a w, Only Q (.panic c) (Act.put a o.dst v) w → Only Q (.panic c) a w := fun _ _ _ h => h
    exact wpAnyH_take h0 hsel hf hr hQ hy hS (held_lex hsel hS l (k + 1) _ _ (fun j hj => by have := hl (j + 1) (by simp; omega); simpa [Nat.add_assoc, Nat.add_comm 1 j] using this) hB' hrest)

def ThenH (P : Program) (md : Region.Mode) (ops : Array Oper) (Q : Exit → Act → World → Prop) (S : World → Prop) (fuel : Nat) (listed : Array Bool) : Exit → Act → World → Prop
  | .normal, a, w => S w ∧ wpAnyH P md ops Q S fuel listed a w
  | _, _, _ => False

/-- One operation alone may come up. -/
theorem held_one {S : World → Prop} {i : Nat} {o : Oper} {fuel : Nat} {listed : Array Bool} {a : Act} {w : World} (hr : Region.ready md ops listed = [i]) (ho : ops[i]? = some o) (hg : o.guard = none)
    (h : wpList P ops (ThenH P md ops (Only Q) S fuel (listed.setIfInBounds i true)) [o] a w) : wpAnyH P md ops (Only Q) S (fuel + 1) listed a w := by
  refine wpAnyH_all hr (by simp) fun j hj => ?_
  obtain rfl : j = i := by simpa using hj
  unfold wpOp
  rw [ho]
  have hw : Region.wanted o (yielded ops a.tmps) = true := by simp [Region.wanted, hg]
  simp only [hw, if_true]
  unfold wpList at h
  rw [if_pos hw] at h
  rcases h with h | ⟨_, _, _, h⟩
  · left
    unfold Oper.wp at *
    generalize (execOp a.eval o).run P w = r at *
    cases r with
    | ok m w' =>
      cases m <;> simp only [Oper.upon] at h ⊢
      case value u => exact h
      case skip => exact h
      case defer d => exact h
      case enter f args =>
        refine Calls.mono h fun e w'' he => ?_
        cases e with
        | returned u => exact he
        | panicked c => exact he.elim
        | outgrown => obtain ⟨_, _, hx⟩ := he; exact hx.elim
      case row row args => exact h
    | halt x w' =>
      cases x <;> simp only [Oper.upon] at h ⊢
      case panic u => exact h.elim
  · exact h.elim

/-- A region that draws its order, within a round: by the plain walk under a condition on the world. -/
theorem held_round {n : Nat} {id : Nat} {a : Act} {w : World} {l : List Oper} {l0 : Nat} (S : World → Prop) (hm : P.follows .mixedOrders = true) (hd : noDefer l = true)
    (h : wpAnyH P .any l.toArray (Only Q) S l.toArray.size (Array.replicate l.toArray.size false) a { w with drawn := w.drawn + 1 }) : (Code.region id l.toArray true).wpIn (Fence.wide.inRound l0) n P Q a w :=
  wpIn_region_any hm (any_round rfl hd l0 _ _ _ _ (any_plain _ _ _ _ (wpAny_of_held _ _ _ _ h)))

/-- The same where the first k operations yield one after the other in every world that meets S. -/
theorem held_round_lex {n : Nat} {id : Nat} {a : Act} {w : World} {l : List Oper} {l0 : Nat} (k : Nat) (S : World → Prop) (hm : P.follows .mixedOrders = true) (hd : noDefer l = true) (hsel : Region.noSelect l.toArray = true) (hk : (l.take k).length = k) (hB : preB .any l.toArray k 0 (Array.replicate l.toArray.size false) = true) (hS : S w.drew)
    (h : wpHeld P l.toArray S (fun a' => wpAnyH P .any l.toArray (Only Q) S (l.length - k) (setAll k 0 (Array.replicate l.toArray.size false)) a' w.drew) (l.take k) a) : (Code.region id l.toArray true).wpIn (Fence.wide.inRound l0) n P Q a w := by
  refine held_round S hm hd ?_
  have hk2 : k ≤ l.length := by rw [List.length_take] at hk; omega
  have := held_lex (P := P) (md := .any) (Q := Q) (S := S) hsel (g := l.length - k) hS (l.take k) 0 (Array.replicate l.toArray.size false) a (fun j hj => by
    rw [hk] at hj
    simp [hj]) (by rw [hk]; exact hB) (by rw [hk]; exact h)
  rw [hk, show l.length - k + k = l.toArray.size by simp; omega] at this
  exact this
end Go.Proofs.YtikfgddgfddbaaaGreatDoor

/- Walks: the program's limbs: Cmp; cmp.Compare. -/
namespace Go.Proofs.YtikfgddgfddbaaaGreatDoor
open Go.RowKit Go.Shelf
set_option linter.unusedVariables false
attribute [local go_sem] Oper.semAt_some

theorem cmp_int (x y : Nat) (w : World) : Calls Tryz.prog 137 #[.int .i64 x, .int .i64 y] w fun e w' => e = .returned (.int .i64 (ordN x y)) ∧ w = w' := by
  rcases Nat.lt_trichotomy x y with h | h | h
  · have q1 : decide (x < y) = true := by simpa using h
    have HO := hid (ordN_lt h)
    clear h
    go_enter Tryz.func137, Tryz.ntmps137
    go_wp2
    go_ret
    exact ⟨ret_int HO.out.symm, rfl⟩
  · subst h
    have q1 : decide (x < x) = false := by simp
    have HO := hid (ordN_eq (a := x))
    go_enter Tryz.func137, Tryz.ntmps137
    go_wp2
    go_ret
    exact ⟨ret_int HO.out.symm, rfl⟩
  · have q1 : decide (x < y) = false := by simp; omega
    have q2 : decide (y < x) = true := by simpa using h
    have HO := hid (ordN_gt h)
    clear h
    go_enter Tryz.func137, Tryz.ntmps137
    go_wp2
    go_ret
    exact ⟨ret_int HO.out.symm, rfl⟩

theorem cmp_u64 (x y : Nat) (w : World) : Calls Tryz.prog 139 #[.int .u64 x, .int .u64 y] w fun e w' => e = .returned (.int .i64 (ordN x y)) ∧ w = w' := by
  rcases Nat.lt_trichotomy x y with h | h | h
  · have q1 : decide (x < y) = true := by simpa using h
    have HO := hid (ordN_lt h)
    clear h
    go_enter Tryz.func139, Tryz.ntmps139
    go_wp2
    go_ret
    exact ⟨ret_int HO.out.symm, rfl⟩
  · subst h
    have q1 : decide (x < x) = false := by simp
    have HO := hid (ordN_eq (a := x))
    go_enter Tryz.func139, Tryz.ntmps139
    go_wp2
    go_ret
    exact ⟨ret_int HO.out.symm, rfl⟩
  · have q1 : decide (x < y) = false := by simp; omega
    have q2 : decide (y < x) = true := by simpa using h
    have HO := hid (ordN_gt h)
    clear h
    go_enter Tryz.func139, Tryz.ntmps139
    go_wp2
    go_ret
    exact ⟨ret_int HO.out.symm, rfl⟩

theorem ordN_len {a b : Nat} (h : (limbs a).length ≠ (limbs b).length) : ordN (limbs a).length (limbs b).length = ordN a b := by
  rcases Nat.lt_or_gt_of_ne h with h | h
  · rw [ordN_lt h, ordN_lt (lt_of_length h)]
  · rw [ordN_gt h, ordN_gt (lt_of_length h)]

set_option maxHeartbeats 1000000 in
theorem l_Cmp_ne (w : World) (v u : Value) (a b : Nat) (ha : IsN .u64 w v a) (hb : IsN .u64 w u b) (hne : (limbs a).length ≠ (limbs b).length) :
    Calls Tryz.prog 95 #[v, u] w fun e w' => e = .returned (.int .i64 (ordN a b)) ∧ Below w.heap.size w w' := by
  obtain ⟨a1, c1, rfl, h1, h2, -⟩ := ha.openI
  obtain ⟨a2, c2, rfl, k1, k2, -⟩ := hb.openI
  clear ha hb
  have HO := hid (ordN_len hne)
  obtain ⟨n, ea⟩ : ∃ n, (limbs a).length = n := ⟨_, rfl⟩
  obtain ⟨m, eb⟩ : ∃ n, (limbs b).length = n := ⟨_, rfl⟩
  rw [ea] at h1 hne HO ⊢
  rw [eb] at k1 hne HO ⊢
  have q0 : ((n : Int) != (m : Int)) = true := by simp; omega
  clear ea eb hne
  go_enter Tryz.func95, Tryz.ntmps95
  go_wp2_with (go_at_call 137; refine (cmp_int _ _ _).mono ?_; rintro e w' ⟨rfl, rfl⟩)
  rw [HO.out]
  exact bodyPost_ret (v := .int .i64 (ordN a b)) (by simp [results, Tryz.results95, go_sem]) rfl ⟨rfl, (((Below.refl _ _).alloc (Nat.le_refl _) _).alloc (by simp) _).alloc (by simp; omega) _⟩

theorem drop_at {l : List Nat} {n k : Nat} (h : l.length = n) (hk : n ≤ k) : l.drop k = [] := List.drop_of_length_le (by omega)

theorem ordN_len_at {a b n j x y : Nat} (ha : (limbs a).length = n) (hb : (limbs b).length = n) (hx : (limbs a)[j]? = some x) (hy : (limbs b)[j]? = some y) (hd : (limbs a).drop (j + 1) = (limbs b).drop (j + 1)) (hne : ¬ x = y) : ordN x y = ordN a b := by
  rcases Nat.lt_or_gt_of_ne hne with h | h
  · rw [ordN_lt h, ordN_lt (ord_lt_at (ha.trans hb.symm) hx hy hd h)]
  · rw [ordN_gt h, ordN_gt (ord_lt_at (hb.trans ha.symm) hy hx hd.symm h)]

set_option maxRecDepth 100000 in
set_option maxHeartbeats 4000000 in
theorem l_Cmp_eq (w : World) (v u : Value) (a b : Nat) (ha : IsN .u64 w v a) (hb : IsN .u64 w u b) (hne : (limbs a).length = (limbs b).length) (hlen : (limbs a).length ≤ 1000000) :
    Calls Tryz.prog 95 #[v, u] w fun e w' => e = .returned (.int .i64 (ordN a b)) ∧ Below w.heap.size w w' := by
  obtain ⟨a1, c1, rfl, h1, h2, h3⟩ := ha.openI
  obtain ⟨a2, c2, rfl, k1, k2, k3⟩ := hb.openI
  have H3 := hid h3; have K3 := hid k3; clear h3 k3 ha hb
  obtain ⟨n, ea⟩ : ∃ n, (limbs a).length = n := ⟨_, rfl⟩
  have eb : (limbs b).length = n := hne.symm.trans ea
  rw [ea] at h1 hlen ⊢
  rw [eb] at k1 ⊢
  have HA := hid ea; have HB := hid eb
  clear hne ea eb
  refine (callsIn_wide (n := 9)).1 ?_
  refine callsIn_of_wp_marks Tryz.func95 rfl trivial ?_ rfl
  simp only [Tryz.ntmps95, List.size_toArray, List.length_cons, List.length_nil, Nat.reduceAdd, Nat.reduceSub, Array.replicate_succ, Array.replicate_zero, List.push_toArray, List.append_toArray, List.nil_append, List.cons_append]
  gi_wp2_with (refine ⟨trivial, ?_⟩; gi_at_call 138; refine (callsIn_wide.2 (back_call _ _ _ _)).mono ?_; rintro e w' ⟨rfl, rfl⟩)
  obtain ⟨W0, hW0⟩ : ∃ W0, (((w.alloc (.cells #[.slice a1 n c1] 100)).alloc (.cells #[.slice a2 n c2] 100)).alloc (.cells #[.int .i64 0] 3)).alloc (.cells #[.slice a1 n c1] 100) = W0 := ⟨_, rfl⟩
  have y0 : Blk W0 w.heap.size #[.slice a1 n c1] 100 := by rw [← hW0]; exact (((Blk.new w _ _).alloc _).alloc _).alloc _
  have y1 : Blk W0 (w.heap.size + 1) #[.slice a2 n c2] 100 := by rw [← hW0]; exact ((Blk.made _ _ _ (by simp)).alloc _).alloc _
  have y2 : Blk W0 (w.heap.size + 1 + 1) #[.int .i64 0] 3 := by rw [← hW0]; exact (Blk.made _ _ _ (by simp)).alloc _
  have y3 : Blk W0 (w.heap.size + 1 + 1 + 1) #[.slice a1 n c1] 100 := by rw [← hW0]; exact Blk.made _ _ _ (by simp)
  have B0 : Below w.heap.size w W0 := by rw [← hW0]; exact ((((Below.refl _ _).alloc (Nat.le_refl _) _).alloc (by simp) _).alloc (by simp; omega) _).alloc (by simp; omega) _
  have z0 : W0.heap.size = w.heap.size + 4 := by rw [← hW0]; simp
  rw [hW0]
  have Y0 := hid y0; have Y1 := hid y1; have Y2 := hid y2; have Y3 := hid y3; have HB0 := hid B0; have Z0 := hid z0
  clear y0 y1 y2 y3 B0 z0 hW0
  have hread : ∀ W1 W2, Below W0.heap.size W0 W1 → Below W0.heap.size W1 W2 → W2.cell? ⟨w.heap.size + 1 + 1 + 1, 0, none⟩ = some (.slice a1 n c1) ∧ ∀ i, i < n → ∃ g o z, a1 = some ⟨g, o, none⟩ ∧ W2.cell? ⟨g, o + i, none⟩ = some (.int .u64 z) ∧ True := fun W1 W2 b1 b2 => by
    have b3 := b1.trans b2
    refine ⟨(Y3.out.call b3).cell 0, fun i hi => ?_⟩
    obtain ⟨x, hx⟩ : ∃ x, (limbs a)[i]? = some x := ⟨_, List.getElem?_eq_getElem (by rw [HA.out]; exact hi)⟩
    obtain ⟨g, o, rfl, hg, hc⟩ := H3.out i x hx
    exact ⟨g, o, _, rfl, ((b3.cell (p := ⟨g, o + i, none⟩) (by have := Z0.out; simp; omega)).trans (HB0.out.cell (p := ⟨g, o + i, none⟩) hg)).trans hc, trivial⟩
  refine range_ok (by omega) (gf := 177) (lb := #[.pointer (some ⟨w.heap.size + 1 + 1 + 1, 0, none⟩)]) rfl (enters_of Tryz.func177 (by kernel_rfl) rfl)
    (back_feeds (Kp := Below W0.heap.size) (V := fun _ _ => True) 8 (by omega) _ n c1 a1 (by omega) h1 W0 (fun W => Below.refl _ W) (fun h k => h.trans k) hread) (fun h k => h.trans k) (belowK_b (Nat.le_refl _)) (Below.refl _ _) (fun _ => rfl)
    (fun pre W => Hid ((limbs a).drop (n - pre.length) = (limbs b).drop (n - pre.length)) ∧ Below W0.heap.size W0 W)
    (fun c pre W => (c = .ret ∧ Blk W (w.heap.size + 1 + 1) #[.int .i64 (ordN a b)] 3) ∧ Below w.heap.size w W)
    (OwnFrom.and (fun s A B row hs hg hr => hs) (ownFrom_below (Nat.le_refl _) (Nat.le_refl _)))
    (fun c => OwnFrom.and (fun s A B row hs hg hr => ⟨hs.1, hs.2.kept hg (fun r e => (hr r e).2)⟩) (ownFrom_below (Nat.le_refl _) (by have := Z0.out; omega)))
    ⟨by rw [Hid, drop_at HA.out (by simp), drop_at HB.out (by simp)], Below.refl _ _⟩ ?act ?assign ?body ?done ?stop
  case assign =>
    intro l x W K hK
    gi_wp2
    exact hK
  case body =>
    rintro l pre ⟨j, z⟩ W ⟨hj, -⟩ ⟨hd, hB⟩
    dsimp only at hj
    rw [show n - pre.length = j + 1 by omega] at hd
    obtain ⟨x, hx⟩ : ∃ x, (limbs a)[j]? = some x := ⟨_, List.getElem?_eq_getElem (by rw [HA.out]; omega)⟩
    obtain ⟨y, hy⟩ : ∃ y, (limbs b)[j]? = some y := ⟨_, List.getElem?_eq_getElem (by rw [HB.out]; omega)⟩
    obtain ⟨g, o, rfl, hg, hc⟩ := H3.out j x hx
    obtain ⟨g', o', rfl, hg', hc'⟩ := K3.out j y hy
    have z0 := Z0.out
    have d1 := ((hB.cell (p := ⟨g, o + j, none⟩) (by simp; omega)).trans (HB0.out.cell (p := ⟨g, o + j, none⟩) hg)).trans hc
    have d2 := ((hB.cell (p := ⟨g', o' + j, none⟩) (by simp; omega)).trans (HB0.out.cell (p := ⟨g', o' + j, none⟩) hg')).trans hc'
    have b0 := (Y0.out.call hB).cell 0
    have b1 := (Y1.out.call hB).cell 0
    have y2 := Y2.out.call hB
    have b2 := y2.cell 0
    have b3 := y2.free 0
    simp only [List.getElem?_toArray, List.getElem?_cons_zero] at b0 b1 b2
    have HX := hid hx; have HY := hid hy; have HBB := hid hB; have HJ := hid hj; have HY2 := hid y2
    clear hx hy hc hc' hB z0 hj y2
    have f1 : (0 : Int) ≤ (j : Int) := by omega
    have f2 : (j : Int) < (n : Int) := by have := HJ.out; omega
    by_cases hxy : x = y
    · subst hxy
      gi_wp2
      refine quiet_round (by kernel_rfl) (by kernel_rfl) (by kernel_rfl) ?_
      repeat (gi_big_quiet_step (fail))
      refine wpQuietIn_nil ?_
      intro _ hw'
      obtain ⟨nq, rfl⟩ := hw'
      gi_wp2
      refine ⟨⟨Nat.le_refl _, fun _ _ _ h _ => h⟩, below_drewN (Below.refl _ _) _, ?_, below_drewN HBB.out _⟩
      rw [List.length_append, List.length_singleton, show n - (pre.length + 1) = j by have := HJ.out; omega]
      exact drop_eq_next HX.out HY.out hd.out
    · have q1 : ((x : Int) != (y : Int)) = true := by simp; omega
      have HNE := hid hxy
      clear hxy
      gi_wp2
      refine quiet_round (by kernel_rfl) (by kernel_rfl) (by kernel_rfl) ?_
      repeat (gi_big_quiet_step (fail))
      refine wpQuietIn_nil ?_
      intro _ hw'
      obtain ⟨nq, rfl⟩ := hw'
      gi_wp2
      obtain ⟨V, hV⟩ : ∃ V, W.drewN nq = V := ⟨_, rfl⟩
      have v1 : V.cell? ⟨g, o + j, none⟩ = some (.int .u64 (x : Int)) := by rw [← hV]; exact d1
      have v2 : V.cell? ⟨g', o' + j, none⟩ = some (.int .u64 (y : Int)) := by rw [← hV]; exact d2
      have v3 : V.cell? ⟨w.heap.size, 0, none⟩ = some (.slice (some ⟨g, o, none⟩) n c1) := by rw [← hV]; exact b0
      have v4 : V.cell? ⟨w.heap.size + 1, 0, none⟩ = some (.slice (some ⟨g', o', none⟩) n c2) := by rw [← hV]; exact b1
      have v5 : V.cell? ⟨w.heap.size + 1 + 1, 0, none⟩ = some (.int .i64 0) := by rw [← hV]; exact b2
      have v6 : V.frozen? ⟨w.heap.size + 1 + 1, 0, none⟩ = false := by rw [← hV]; exact b3
      have HVB := hid (show Below W0.heap.size W0 V from by rw [← hV]; exact below_drewN HBB.out nq)
      have HVY := hid (show Blk V (w.heap.size + 1 + 1) #[.int .i64 0] 3 from by rw [← hV]; exact HY2.out)
      have HVW := hid (show KeepsFrom W0.heap.size W V from by rw [← hV]; exact ⟨Nat.le_refl _, fun _ _ _ h _ => h⟩)
      rw [hV]
      clear hV d1 d2 b0 b1 b2 b3 HBB HY2
      refine quiet_last_round 9 (by kernel_rfl) rfl (by kernel_rfl) (by kernel_rfl) (by kernel_rfl) ?_
      simp only [List.take_succ_cons, List.take_zero]
      repeat (gi_big_quiet_step (fail))
      refine wpQuietIn_step (fun _ _ f hf => trivial) (fun K hK => ?_)
      go_simp
      refine ⟨_, fun _ => CallsIn.quiet_of_same ((callsIn_wide.2 (cmp_u64 x y _)).mono fun _ _ h => ⟨h.1, h.2.symm⟩), hK _ ?_⟩
      clear hK K
      refine wpQuietIn_nil ?_
      intro _ hw'
      obtain ⟨nq2, rfl⟩ := hw'
      gi_wp2
      have hord := ordN_len_at HA.out HB.out HX.out HY.out hd.out HNE.out
      refine ⟨HVW.out.trans ⟨by simp [World.setCell], fun k o hk ho hc => ?_⟩, ⟨rfl, ?_⟩, ?_⟩
      · exact (KeepsOthers.setCell (V.drewN nq2) _ _).same k o ho hc
      · rw [← hord]; exact HVY.out.set 0 _
      · exact (below_drewN (HB0.out.trans (HVB.out.mono (by have := Z0.out; omega))) nq2).setCell (by simp; omega) _
  case done =>
    rintro D xs W hD hx ⟨hd, hB⟩ hK
    rw [hx, Nat.sub_self, List.drop_zero, List.drop_zero] at hd
    have hab : a = b := limbs_inj hd.out
    have y2 := Y2.out.call hB
    have b2 := y2.cell 0
    have b3 := y2.free 0
    simp only [List.getElem?_toArray, List.getElem?_cons_zero] at b2
    have HAB := hid hab; have HBB := hid hB; have HY2 := hid y2; have HK := hid hK
    clear hab hB y2 hK hd hx
    gi_wp2
    have hy3 := HY2.out.set 0 (.int .i64 0)
    have hk3 := (KeepsOthers.setCell W ⟨w.heap.size + 1 + 1, 0, none⟩ (.int .i64 0)).same D _ HK.out rfl
    have hy4 := hy3.kept (grownBy_putObj' _ D (.deferred none)) (fun r e => by cases e; exact ⟨_, hk3, rfl⟩)
    have hc4 := hy4.cell 0
    simp at hc4
    refine marks_end hk3 (v := .int .i64 0) (by simp [results, Tryz.results95, go_sem, hc4]) ⟨by rw [HAB.out, ordN_eq], ?_⟩
    exact ((HB0.out.trans (HBB.out.mono (by have := Z0.out; omega))).setCell (by simp; omega) _).trans (belowK_b (w := w) (Nat.le_refl _) _ D _ _ (by have := Z0.out; omega) hk3 rfl rfl)
  case stop =>
    rintro D c pre W hD - ⟨⟨rfl, hy⟩, hB⟩ hK
    gi_wp2
    have hy4 := hy.kept (grownBy_putObj' _ D (.deferred none)) (fun r e => by cases e; exact ⟨_, hK, rfl⟩)
    have hc4 := hy4.cell 0
    simp only [List.getElem?_toArray, List.getElem?_cons_zero] at hc4
    refine marks_end hK (v := .int .i64 (ordN a b)) (by simp [results, Tryz.results95, go_sem, hc4]) ⟨rfl, ?_⟩
    exact hB.trans (belowK_b (w := w) (Nat.le_refl _) _ D _ _ (by have := Z0.out; omega) hK rfl rfl)

/-- The order of two numbers. -/
theorem l_Cmp (w : World) (v u : Value) (a b : Nat) (ha : IsN .u64 w v a) (hb : IsN .u64 w u b) (hla : (limbs a).length ≤ 1000000) :
    Calls Tryz.prog 95 #[v, u] w fun e w' => e = .returned (.int .i64 (ordN a b)) ∧ Below w.heap.size w w' := by
  by_cases h : (limbs a).length = (limbs b).length
  · exact l_Cmp_eq w v u a b ha hb h hla
  · exact l_Cmp_ne w v u a b ha hb h
end Go.Proofs.YtikfgddgfddbaaaGreatDoor

/- Walks: the program's limbs: small. -/
namespace Go.Proofs.YtikfgddgfddbaaaGreatDoor
open Go.RowKit Go.Shelf
set_option linter.unusedVariables false
attribute [local go_sem] Oper.semAt_some

set_option maxRecDepth 100000 in
set_option maxHeartbeats 4000000 in
theorem l_small (w : World) (v : Value) (a d : Nat) (ha : IsN .u64 w v a) (hd0 : 0 < d) (hd1 : d < 1000000000) (hla : (limbs a).length ≤ 1000000) :
    Calls Tryz.prog 193 #[v, .int .u64 d] w fun e w' => (∃ v', e = .returned (.tuple #[v', .int .u64 ((a % d : Nat) : Int)]) ∧ IsN .u64 w' v' (a / d)) ∧ Below w.heap.size w w' := by
  obtain ⟨a1, c1, rfl, h1, h2, h3⟩ := ha.openI
  have H3 := hid h3; clear h3 ha
  obtain ⟨n, ea⟩ : ∃ n, (limbs a).length = n := ⟨_, rfl⟩
  rw [ea] at h1 hla ⊢
  have HA := hid ea
  clear ea
  have hmk := fun W => make_nat n (by omega) W
  refine (callsIn_wide (n := 9)).1 ?_
  refine callsIn_of_wp_marks Tryz.func193 rfl trivial ?_ rfl
  simp only [Tryz.ntmps193, List.size_toArray, List.length_cons, List.length_nil, Nat.reduceAdd, Nat.reduceSub, Array.replicate_succ, Array.replicate_zero, List.push_toArray, List.append_toArray, List.nil_append, List.cons_append]
  gi_wp2_with (refine ⟨trivial, ?_⟩; gi_at_call 138; refine (callsIn_wide.2 (back_call _ _ _ _)).mono ?_; rintro e w' ⟨rfl, rfl⟩)
  clear hmk
  obtain ⟨W0, hW0⟩ : ∃ W0, ((((((w.alloc (.cells #[.slice a1 n c1] 100)).alloc (.cells #[.int .u64 d] 112)).alloc (.cells (madeCells #[.int .u64 0] n) 112)).alloc (.cells #[.slice (some ⟨w.heap.size + 1 + 1, 0, none⟩) n n] 100)).alloc (.cells #[.int .u64 0] 112)).alloc (.cells #[.slice a1 n c1] 100)) = W0 := ⟨_, rfl⟩
  have y0 : Blk W0 w.heap.size #[.slice a1 n c1] 100 := by rw [← hW0]; exact (((((Blk.new w _ _).alloc _).alloc _).alloc _).alloc _).alloc _
  have y1 : Blk W0 (w.heap.size + 1) #[.int .u64 d] 112 := by rw [← hW0]; exact ((((Blk.made _ _ _ (by simp)).alloc _).alloc _).alloc _).alloc _
  have y2 : Arr .u64 112 W0 (w.heap.size + 1 + 1) (List.replicate n 0) := by
    rw [← hW0]
    have := Arr.made ((w.alloc (.cells #[.slice a1 n c1] 100)).alloc (.cells #[.int .u64 d] 112)) .u64 112 n
    rw [World.size_alloc, World.size_alloc] at this
    exact (((Blk.alloc this _).alloc _).alloc _)
  have y3 : Blk W0 (w.heap.size + 1 + 1 + 1) #[.slice (some ⟨w.heap.size + 1 + 1, 0, none⟩) n n] 100 := by rw [← hW0]; exact ((Blk.made _ _ _ (by simp)).alloc _).alloc _
  have y4 : Blk W0 (w.heap.size + 1 + 1 + 1 + 1) #[.int .u64 0] 112 := by rw [← hW0]; exact (Blk.made _ _ _ (by simp)).alloc _
  have y5 : Blk W0 (w.heap.size + 1 + 1 + 1 + 1 + 1) #[.slice a1 n c1] 100 := by rw [← hW0]; exact Blk.made _ _ _ (by simp)
  have B0 : Below w.heap.size w W0 := by rw [← hW0]; exact ((((((Below.refl _ _).alloc (Nat.le_refl _) _).alloc (by simp) _).alloc (by simp; omega) _).alloc (by simp; omega) _).alloc (by simp; omega) _).alloc (by simp; omega) _
  have z0 : W0.heap.size = w.heap.size + 6 := by rw [← hW0]; simp
  rw [hW0]
  have Y0 := hid y0; have Y1 := hid y1; have Y2 := hid y2; have Y3 := hid y3; have Y4 := hid y4; have Y5 := hid y5; have HB0 := hid B0; have Z0 := hid z0
  clear y0 y1 y2 y3 y4 y5 B0 z0 hW0
  have hread : ∀ W1 W2, Below W0.heap.size W0 W1 → KpB w.heap.size (w.heap.size + 1 + 1 + 1 + 1 + 1) W1 W2 → W2.cell? ⟨w.heap.size + 1 + 1 + 1 + 1 + 1, 0, none⟩ = some (.slice a1 n c1) ∧ ∀ i, i < n → ∃ g o z, a1 = some ⟨g, o, none⟩ ∧ W2.cell? ⟨g, o + i, none⟩ = some (.int .u64 z) ∧ True := fun W1 W2 b1 b2 => by
    refine ⟨(b2.blk (Y5.out.call b1)).cell 0, fun i hi => ?_⟩
    obtain ⟨x, hx⟩ : ∃ x, (limbs a)[i]? = some x := ⟨_, List.getElem?_eq_getElem (by rw [HA.out]; exact hi)⟩
    obtain ⟨g, o, rfl, hg, hc⟩ := H3.out i x hx
    exact ⟨g, o, _, rfl, (((b2.1.cell (p := ⟨g, o + i, none⟩) hg).trans (b1.cell (p := ⟨g, o + i, none⟩) (by have := Z0.out; simp; omega))).trans (HB0.out.cell (p := ⟨g, o + i, none⟩) hg)).trans hc, trivial⟩
  refine range_ok (by omega) (gf := 177) (lb := #[.pointer (some ⟨w.heap.size + 1 + 1 + 1 + 1 + 1, 0, none⟩)]) rfl (enters_of Tryz.func177 (by kernel_rfl) rfl)
    (back_feeds (Kp := KpB w.heap.size (w.heap.size + 1 + 1 + 1 + 1 + 1)) (V := fun _ _ => True) 8 (by omega) _ n c1 a1 (by omega) h1 W0 (KpB.refl _ _) KpB.trans hread) KpB.trans (KpB.put (by have := Z0.out; omega) (by have := Z0.out; omega)) (Below.refl _ _) (fun _ => rfl)
    (fun pre W => (∃ (r : Nat) (o : List Nat), SmallI a d (n - pre.length) r o ∧ Arr .u64 112 W (w.heap.size + 1 + 1) o ∧ Blk W (w.heap.size + 1 + 1 + 1 + 1) #[.int .u64 r] 112 ∧ Blk W (w.heap.size + 1 + 1 + 1) #[.slice (some ⟨w.heap.size + 1 + 1, 0, none⟩) n n] 100) ∧ Below (w.heap.size + 2) W0 W)
    (fun c pre W => False)
    (OwnFrom.and (fun s A B row hs hg hr => by
      obtain ⟨r, o, h1, h2, h3, h4⟩ := hs
      exact ⟨r, o, h1, Blk.kept h2 hg (fun r e => (hr r e).2), h3.kept hg (fun r e => (hr r e).2), h4.kept hg (fun r e => (hr r e).2)⟩) (ownFrom_below (by have := Z0.out; omega) (by have := Z0.out; omega)))
    (fun c s A B row hs hg hr => hs)
    ⟨⟨0, _, by have := SmallI.start (a := a) hd0; rw [HA.out] at this; simpa using this, Y2.out, Y4.out, Y3.out⟩, Below.refl _ _⟩ ?act ?assign ?body ?done ?stop
  case assign =>
    intro l x W K hK
    gi_wp2
    exact hK
  case body =>
    rintro l pre ⟨j, z⟩ W ⟨hj, -⟩ ⟨⟨r, o, hS, hO, hR, hU⟩, hB⟩
    dsimp only at hj
    rw [show n - pre.length = j + 1 by omega] at hS
    obtain ⟨x, hx⟩ : ∃ x, (limbs a)[j]? = some x := ⟨_, List.getElem?_eq_getElem (by rw [HA.out]; omega)⟩
    obtain ⟨g, og, rfl, hg, hc⟩ := H3.out j x hx
    have hol : o.length = n := by rw [hS.len, HA.out]
    obtain ⟨z0, hz0⟩ : ∃ z, o[j]? = some z := ⟨_, List.getElem?_eq_getElem (by omega)⟩
    have d1 := ((hB.cell (p := ⟨g, og + j, none⟩) (by simp; omega)).trans (HB0.out.cell (p := ⟨g, og + j, none⟩) hg)).trans hc
    have b0 := (Y0.out.below hB (by omega)).cell 0
    have b1 := (Y1.out.below hB (by omega)).cell 0
    have b3 := hU.cell 0
    have b4 := hR.cell 0
    have b5 := hR.free 0
    have d3 := hO.cell hz0
    have d4 := hO.free j
    simp only [List.getElem?_toArray, List.getElem?_cons_zero] at b0 b1 b3 b4
    have HN := hid (hS.next hx)
    have hxl := (sm_limbs a).get hx
    have hrl := hS.rd
    have dz : ((d : Int) == 0) = false := by simp; omega
    have HX := hid hx; have HBB := hid hB; have HJ := hid hj; have HO := hid hO; have HR := hid hR; have HU := hid hU
    clear hx hc hB hj hz0 hol hS hO hR hU
    have f1 : (0 : Int) ≤ (j : Int) := by omega
    have f2 : (j : Int) < (n : Int) := by have := HJ.out; omega
    have e5 : IntKind.u64.wrap ((r : Int) * 1000000000) = (r : Int) * 1000000000 := IntWalk.u64_in _ (by omega)
    have e6 : IntKind.u64.wrap ((r : Int) * 1000000000 + x) = (r : Int) * 1000000000 + x := IntWalk.u64_in _ (by omega)
    gi_wp2
    refine quiet_round (by kernel_rfl) (by kernel_rfl) (by kernel_rfl) ?_
    repeat (gi_big_quiet_step (fail))
    refine wpQuietIn_nil ?_
    intro _ hw'
    obtain ⟨nq, rfl⟩ := hw'
    clear e5 e6
    gi_wp2
    obtain ⟨V, hV⟩ : ∃ V, W.drewN nq = V := ⟨_, rfl⟩
    have v1 : V.cell? ⟨w.heap.size + 1, 0, none⟩ = some (.int .u64 (d : Int)) := by rw [← hV]; exact b1
    have v3 : V.cell? ⟨w.heap.size + 1 + 1 + 1, 0, none⟩ = some (.slice (some ⟨w.heap.size + 1 + 1, 0, none⟩) n n) := by rw [← hV]; exact b3
    rw [hV]
    obtain ⟨qv, hqv⟩ : ∃ q, (r * 1000000000 + x) / d = q := ⟨_, rfl⟩
    obtain ⟨mv, hmv⟩ : ∃ m, (r * 1000000000 + x) % d = m := ⟨_, rfl⟩
    rw [hqv, hmv] at HN
    have dz2 : ¬ d = 0 := by omega
    have e7 : IntKind.u64.wrap (((r : Int) * 1000000000 + x).tdiv d) = (qv : Int) := by
      rw [IntWalk.u64_quo _ _ (by omega), ← hqv, Int.natCast_ediv]; rfl
    have e8 : ((r : Int) * 1000000000 + x).tmod d = (mv : Int) := by
      rw [IntWalk.rem_in _ _ (by omega), ← hmv, Int.natCast_emod]; rfl
    have v4 : V.cell? ⟨w.heap.size + 1 + 1 + 1 + 1, 0, none⟩ = some (.int .u64 (r : Int)) := by rw [← hV]; exact b4
    have v5 : V.frozen? ⟨w.heap.size + 1 + 1 + 1 + 1, 0, none⟩ = false := by rw [← hV]; exact b5
    have v6 : V.cell? ⟨w.heap.size + 1 + 1, j, none⟩ = some (.int .u64 (z0 : Int)) := by rw [← hV]; exact d3
    have v7 : V.frozen? ⟨w.heap.size + 1 + 1, j, none⟩ = false := by rw [← hV]; exact d4
    have HVB := hid (show Below (w.heap.size + 2) W0 V from by rw [← hV]; exact below_drewN HBB.out nq)
    have HVW := hid (show KpB w.heap.size (w.heap.size + 1 + 1 + 1 + 1 + 1) W V ∧ KeepsFrom W0.heap.size W V from by rw [← hV]; exact ⟨⟨below_drewN (Below.refl _ _) _, rfl⟩, Nat.le_refl _, fun _ _ _ h _ => h⟩)
    have HVO := hid (show Arr .u64 112 V (w.heap.size + 1 + 1) o from by rw [← hV]; exact HO.out)
    have HVR := hid (show Blk V (w.heap.size + 1 + 1 + 1 + 1) #[.int .u64 r] 112 from by rw [← hV]; exact HR.out)
    have HV1 := hid (show Blk V (w.heap.size + 1) #[.int .u64 d] 112 from by rw [← hV]; exact Blk.drewN (Blk.below (B := w.heap.size + 2) Y1.out HBB.out (by omega)) nq)
    have HVU := hid (show Blk V (w.heap.size + 1 + 1 + 1) #[.slice (some ⟨w.heap.size + 1 + 1, 0, none⟩) n n] 100 from by rw [← hV]; exact HU.out)
    clear hV d1 b0 b1 b3 b4 b5 d3 d4 hqv hmv HBB HO HR HU
    refine held_round_lex 9 (fun W' => W'.cell? ⟨w.heap.size + 1, 0, none⟩ = some (.int .u64 (d : Int)) ∧ W'.cell? ⟨w.heap.size + 1 + 1 + 1, 0, none⟩ = some (.slice (some ⟨w.heap.size + 1 + 1, 0, none⟩) n n)) (by kernel_rfl) (by kernel_rfl) (by kernel_rfl) rfl (by kernel_rfl) ⟨v1, v3⟩ ?_
    simp only [List.take_succ_cons, List.take_zero]
    iterate 9
      apply Exists.intro
      refine ⟨.inl ⟨by rfl, ?_⟩, ?_⟩
      · (intro W' hW'
         obtain ⟨q1, q2⟩ := hW'
         go_simp
         try (with_reducible rfl))
      simp only [Act.put, List.setIfInBounds_toArray, List.set_cons_zero, List.set_cons_succ]
    clear e7 e8
    refine held_one (i := 9) (by kernel_rfl) (by rfl) (by rfl) ?_
    go_wp2
    have u1 : Arr .u64 112 (V.setCell ⟨w.heap.size + 1 + 1, j, none⟩ (.int .u64 (qv : Int))) (w.heap.size + 1 + 1) (o.set j qv) := HVO.out.set j qv
    have u2 := Blk.other (a := ⟨w.heap.size + 1 + 1, j, none⟩) HVR.out (by simp <;> omega) (.int .u64 (qv : Int))
    have u3 := Blk.other (a := ⟨w.heap.size + 1 + 1, j, none⟩) HVU.out (by simp <;> omega) (.int .u64 (qv : Int))
    have u4 := Blk.other (a := ⟨w.heap.size + 1 + 1, j, none⟩) HV1.out (by simp <;> omega) (.int .u64 (qv : Int))
    obtain ⟨V1, hV1⟩ : ∃ V1, (V.setCell ⟨w.heap.size + 1 + 1, j, none⟩ (.int .u64 (qv : Int))).drew = V1 := ⟨_, rfl⟩
    have c2 : V1.cell? ⟨w.heap.size + 1 + 1 + 1 + 1, 0, none⟩ = some (.int .u64 (r : Int)) := by rw [← hV1]; exact u2.cell 0
    have c2' : V1.frozen? ⟨w.heap.size + 1 + 1 + 1 + 1, 0, none⟩ = false := by rw [← hV1]; exact u2.free 0
    have c3 : V1.cell? ⟨w.heap.size + 1 + 1 + 1, 0, none⟩ = some (.slice (some ⟨w.heap.size + 1 + 1, 0, none⟩) n n) := by rw [← hV1]; exact u3.cell 0
    have c4 : V1.cell? ⟨w.heap.size + 1, 0, none⟩ = some (.int .u64 (d : Int)) := by rw [← hV1]; exact u4.cell 0
    have U1 : Hid (Arr .u64 112 V1 (w.heap.size + 1 + 1) (o.set j qv)) := by rw [← hV1]; exact u1
    have U2 : Hid (Blk V1 (w.heap.size + 1 + 1 + 1 + 1) #[.int .u64 r] 112) := by rw [← hV1]; exact u2
    have U3 : Hid (Blk V1 (w.heap.size + 1 + 1 + 1) #[.slice (some ⟨w.heap.size + 1 + 1, 0, none⟩) n n] 100) := by rw [← hV1]; exact u3
    have HB1 := hid (show Below (w.heap.size + 2) W0 V1 from by rw [← hV1]; exact (HVB.out.setCell (by simp <;> omega) _).drew)
    have HW1 := hid (show KpB w.heap.size (w.heap.size + 1 + 1 + 1 + 1 + 1) W V1 ∧ KeepsFrom W0.heap.size W V1 from by
      rw [← hV1]
      refine ⟨⟨(HVW.out.1.1.setCell (by simp <;> omega) _).drew, ?_⟩, HVW.out.2.trans (((KeepsOthers.setCell V _ _).trans (KeepsOthers.drew _)).from _)⟩
      exact (Below.heap_setCell _ _ _ _ (by simp <;> omega)).trans HVW.out.1.2)
    rw [hV1]
    clear hV1 u1 u2 u3 u4 v1 v3 v4 v5 v6 v7
    refine ⟨⟨c4, c3⟩, held_one (i := 10) (by kernel_rfl) (by rfl) (by rfl) ?_⟩
    go_wp2
    have w3 := Blk.other (a := ⟨w.heap.size + 1 + 1 + 1 + 1, 0, none⟩) U3.out (by simp <;> omega) (.int .u64 (mv : Int))
    have w1 := Blk.other (a := ⟨w.heap.size + 1 + 1 + 1 + 1, 0, none⟩) U1.out (by simp <;> omega) (.int .u64 (mv : Int))
    have w2 := U2.out.set 0 (.int .u64 (mv : Int))
    refine ⟨⟨?_, w3.cell 0⟩, wpAnyH_done (by kernel_rfl) ?_ _⟩
    · rw [World.cell?_setCell_other _ _ _ _ (by simp <;> omega)]; exact c4
    simp only [Only]
    gi_wp2
    refine ⟨HW1.out.2.trans ((KeepsOthers.setCell _ _ _).from _), ⟨(HW1.out.1.1).setCell (by simp <;> omega) _, ?_⟩, ⟨mv, o.set j qv, ?_, w1, w2, w3⟩, HB1.out.setCell (by simp <;> omega) _⟩
    · rw [Below.heap_setCell _ _ _ _ (by simp <;> omega)]
      exact HW1.out.1.2
    · rw [List.length_append, List.length_singleton, show n - (pre.length + 1) = j by have := HJ.out; omega]
      exact HN.out
  case done =>
    rintro D xs W hD hx ⟨⟨r, o, hS, hO, hR, hU⟩, hB⟩ hK
    rw [hx, Nat.sub_self] at hS
    have hv := hS.done
    have hol : o.length = n := by rw [hS.len, HA.out]
    have hr : Row W (.slice (some ⟨w.heap.size + 1 + 1, 0, none⟩) n n) (ints .u64 o) := by
      have := Arr.row (n := n) (c := n) hO (by omega) (Nat.le_refl _) (by unfold maxLen; omega)
      rwa [List.take_of_length_le (by omega)] at this
    have b3 := hU.cell 0
    have b4 := hR.cell 0
    simp only [List.getElem?_toArray, List.getElem?_cons_zero] at b3 b4
    have HL := hid hol; have HV := hid hv; have HR := hid hr; have HS := hid hS.sm; have HB := hid hB; have HK := hid hK
    clear hx hS hO hR hU hB hK hv hol hr
    gi_wp2
    refine wpIn_region_quiet_lit rfl (by kernel_rfl) (by kernel_rfl) ?_
    repeat (gi_big_quiet_step (fail))
    refine wpQuietIn_step (fun _ _ f hf => trivial) (fun K2 hK2 => ?_)
    go_simp
    have htr : ∀ q, CallsIn Fence.wide 8 Tryz.prog 136 #[.slice (some ⟨w.heap.size + 1 + 1, 0, none⟩) n n] (W.drewN q) fun e w'' => e = .returned (.slice (some ⟨w.heap.size + 1 + 1, 0, none⟩) (limbs (a / d)).length n) ∧ ∃ m, w'' = W.drewN m := fun q => by
      have := l_trim_to (W.drewN q) (some ⟨w.heap.size + 1 + 1, 0, none⟩) n o HS.out (by rw [HL.out]; exact HR.out.drewN q)
      rw [HV.out.1, HL.out] at this
      exact CallsIn.quiet_of_same (callsIn_wide.2 this)
    refine ⟨_, htr, hK2 _ ?_⟩
    clear hK2 K2 htr
    repeat (gi_big_quiet_step (fail))
    refine wpQuietIn_nil ?_
    intro _ hw'
    obtain ⟨nq, rfl⟩ := hw'
    gi_wp2
    have hK3 : (W.drewN nq).heap[D]? = some (.deferred (some [])) := HK.out
    refine marks_end hK3 (v := .tuple #[.slice (some ⟨w.heap.size + 1 + 1, 0, none⟩) (limbs (a / d)).length n, .int .u64 (r : Int)]) (by simp [results, Tryz.results193, go_sem]) ⟨⟨_, by rw [← HV.out.2], ?_⟩, ?_⟩
    · have h1 := trim_isN HS.out (show Row W (.slice (some ⟨w.heap.size + 1 + 1, 0, none⟩) o.length n) (ints .u64 o) by rw [HL.out]; exact HR.out)
      rw [HV.out.1] at h1
      exact IsN.put (W := W.drewN nq) (Row.drewN h1 nq) hK3 _
    · exact (below_drewN (HB0.out.trans (HB.out.mono (by omega))) nq).trans (belowK_b (w := w) (Nat.le_refl _) _ D _ _ (by have := Z0.out; omega) hK3 rfl rfl)
  case stop =>
    rintro D c pre W hD - h
    exact h.elim
end Go.Proofs.YtikfgddgfddbaaaGreatDoor

/- Walks: the program's limbs: DivMod. -/
namespace Go.Proofs.YtikfgddgfddbaaaGreatDoor
open Go.RowKit Go.Shelf
set_option linter.unusedVariables false
attribute [local go_sem] Oper.semAt_some

theorem l_divmod_less (w : World) (v u : Value) (a b : Nat) (ha : IsN .u64 w v a) (hb : IsN .u64 w u b) (hlt : a < b) (hla : (limbs a).length ≤ 1000000) :
    Calls Tryz.prog 172 #[v, u] w fun e w' => RetNN .u64 (a / b) (a % b) e w' ∧ Below w.heap.size w w' := by
  have HA := hid ha; have HB := hid hb; have HL := hid (ordN_lt hlt); have HQ := hid (Nat.div_eq_of_lt hlt); have HR := hid (Nat.mod_eq_of_lt hlt); have HLA := hid hla
  obtain ⟨a1, c1, rfl, _⟩ := ha.openI
  obtain ⟨a2, c2, rfl, _⟩ := hb.openI
  clear ha hb hlt hla
  go_enter Tryz.func172, Tryz.ntmps172
  go_wp2_with fail
  refine (l_Cmp _ _ _ a b HA.out HB.out HLA.out).mono ?_; rintro e w1 ⟨rfl, hb1⟩
  have B1 := hid hb1; clear hb1
  rw [HL.out]
  go_wp2_with fail
  go_ret2
  exact ⟨⟨_, _, rfl, by rw [HQ.out]; exact IsN.zero _ _, by rw [HR.out]; exact HA.out.call B1.out⟩, B1.out⟩

theorem ordN_ge {a b : Nat} (h : b ≤ a) : ordN a b = 0 ∨ ordN a b = 1 := by
  unfold ordN; split
  · omega
  · split <;> simp

set_option maxRecDepth 100000 in
set_option maxHeartbeats 2000000 in
theorem l_divmod_one (w : World) (v u : Value) (a b : Nat) (ha : IsN .u64 w v a) (hb : IsN .u64 w u b) (hle : b ≤ a) (h0 : 0 < b) (h1 : b < 1000000000) (hla : (limbs a).length ≤ 1000000) :
    Calls Tryz.prog 172 #[v, u] w fun e w' => RetNN .u64 (a / b) (a % b) e w' ∧ Below w.heap.size w w' := by
  have HA := hid ha; have HB := hid hb; have HLA := hid hla
  have hord := ordN_ge hle
  obtain ⟨a1, c1, rfl, h1', _⟩ := ha.openI
  obtain ⟨a2, c2, rfl, h2', h3', h4'⟩ := hb.openI
  have hl1 : limbs b = [b] := limbs_small h0 h1
  obtain ⟨g, o, rfl, hg, hc⟩ := h4' 0 b (by rw [hl1]; rfl)
  rw [Nat.add_zero] at hc
  have HC := hid hc
  have hlen : (limbs b).length = 1 := by rw [hl1]; rfl
  rw [hlen] at HB h2' ⊢
  clear ha hb hc h4' hl1 hlen hla
  go_enter Tryz.func172, Tryz.ntmps172
  go_wp2_with fail
  refine (l_Cmp _ _ _ a b HA.out HB.out HLA.out).mono ?_; rintro e w1 ⟨rfl, hb1⟩
  have d1 := (hb1.cell (p := ⟨g, o, none⟩) hg).trans HC.out
  have B1 := hid hb1; clear hb1
  obtain ⟨t, ht⟩ : ∃ t, ordN a b = t := ⟨_, rfl⟩
  rw [ht] at hord ⊢
  have q0 : decide (t < 0) = false := by simp; omega
  clear ht hord
  go_wp2_with fail
  refine (l_small _ _ a b (HA.out.call B1.out) h0 h1 HLA.out).mono ?_; rintro e w2 ⟨⟨v2, rfl, hv2⟩, hb2⟩
  have B2 := hid hb2; have V2 := hid hv2; clear hb2 hv2
  have hrb := hid (show a % b < 18446744073709551616 from Nat.lt_trans (Nat.mod_lt a h0) (by omega))
  go_wp2_with fail
  refine (l_Of _ (a % b) hrb.out).mono ?_
  rintro e w3 ⟨⟨v3, rfl, hv3⟩, hb3⟩
  have V3 := hid hv3; have B3 := hid hb3; clear hv3 hb3
  go_wp2_with fail
  go_ret2
  exact ⟨⟨_, _, rfl, V2.out.call B3.out, V3.out⟩, bnext (bnext B1.out B2.out) B3.out⟩

/-- What a round keeps: the block bs; block g goes on being an array of K limbs. -/
def KpQ (bs g K : Nat) (W W2 : World) : Prop := W2.heap[bs]? = W.heap[bs]? ∧ ((∃ Q, Arr .u64 112 W g Q ∧ Q.length = K) → ∃ Q, Arr .u64 112 W2 g Q ∧ Q.length = K)
theorem KpQ.refl (bs g K : Nat) (W : World) : KpQ bs g K W W := ⟨rfl, fun h => h⟩
theorem KpQ.trans {bs g K : Nat} {A B C : World} (h : KpQ bs g K A B) (k : KpQ bs g K B C) : KpQ bs g K A C := ⟨k.1.trans h.1, fun x => k.2 (h.2 x)⟩
theorem KpQ.put {bs g K : Nat} {w : World} (hb : bs < w.heap.size) (W : World) (l : Nat) (o o' : Obj) (hl : w.heap.size ≤ l) (h : W.heap[l]? = some o) (h1 : o.isCells = false) (h2 : o.isWalk = false) : KpQ bs g K W (W.putObj l o') :=
  ⟨World.putObj_heap_other (by omega), fun ⟨Q, hq, hq2⟩ => ⟨Q, Blk.kept hq (grownBy_putObj' W l o') (fun r e => by cases e; exact ⟨_, h, h1⟩), hq2⟩⟩

theorem top_zero {a b d A m : Nat} (hA : (limbs (a * d)).length = A) (hm : m ≤ A + 1) (h0 : 0 < m) (hb : 1000000000 ^ (m - 1) ≤ b) (hd : 0 < d) : val ((limbs (a * d) ++ [0]).drop (A + 1 - m)) < b * d := by
  rw [List.drop_append_of_le_length (by omega), val_append]
  have h1 := val_lt ((sm_limbs (a * d)).drop (A + 1 - m))
  rw [List.length_drop, hA, show A - (A + 1 - m) = m - 1 by omega] at h1
  simp only [val_cons, val_nil]
  have h2 : b ≤ b * d := Nat.le_mul_of_pos_right b hd
  omega

theorem own_nextA {k : IntKind} {w wr w3 : World} {t : TypeId} {v v3 : Value} {s : List Nat} {z A : Nat} {o : Obj} (hl : s.length = A) (hO : wr.ownsRow w.heap.size t 1 v A (ints k s)) (hB : Below w.heap.size w wr)
    (h3 : w3.ownsRow w.heap.size t 1 v3 (A + 1) (ints k s ++ [.int k (z : Int)])) (hg : (wr.alloc o).grownBy w3 v.ownBlock) :
    w3.ownsRow w.heap.size t 1 v3 (s ++ [z]).length (ints k (s ++ [z])) ∧ Below w.heap.size w w3 := by
  subst hl
  exact own_next hO hB h3 hg

theorem mul_lim {a d L : Nat} (hL : (limbs a).length = L) (hd : d < 1000000000) : a * d < 1000000000 ^ (L + 1) := by
  have h := limbs_length_le.1 (Nat.le_of_eq hL)
  rw [Nat.pow_succ]
  exact Nat.lt_of_le_of_lt (Nat.mul_le_mul_left a (Nat.le_of_lt hd)) (Nat.mul_lt_mul_of_pos_right h (by omega))

set_option maxRecDepth 100000 in
set_option maxHeartbeats 8000000 in
theorem l_divmod_many (w : World) (v u : Value) (a b m : Nat) (ha : IsN .u64 w v a) (hb : IsN .u64 w u b) (hle : b ≤ a) (hn : (limbs b).length = m) (hm2 : 2 ≤ m) (hla : (limbs a).length ≤ 1000000) :
    Calls Tryz.prog 172 #[v, u] w fun e w' => RetNN .u64 (a / b) (a % b) e w' ∧ Below w.heap.size w w' := by
  obtain ⟨i0, hi, hz0, hz1, hz2⟩ := info_parts info_u64
  have HA := hid ha; have HB := hid hb
  have hord := ordN_ge hle
  have hmn := limbs_length_mono hle
  obtain ⟨a1, c1, rfl, h1', _⟩ := ha.openI
  obtain ⟨a2, c2, rfl, h2', h3', h4'⟩ := hb.openI
  obtain ⟨x, hx⟩ : ∃ x, (limbs b)[m - 1]? = some x := ⟨_, List.getElem?_eq_getElem (by omega)⟩
  obtain ⟨g, o, rfl, hg, hc⟩ := h4' (m - 1) x hx
  have HC := hid hc
  have hn1 : (limbs b).length = (m - 1) + 1 := by omega
  obtain ⟨s1, s2, s3⟩ := scale_len hn1 hx
  obtain ⟨t1, t2, _⟩ := top_limb hn1 hx
  obtain ⟨d, hd⟩ : ∃ d, 1000000000 / (x + 1) = d := ⟨_, rfl⟩
  rw [hd] at s1 s2 s3
  have HS := hid (show (limbs (b * d)).length = m by omega)
  have hdI := hid (show ((1000000000 : Int) / ((x : Int) + 1)) = (d : Int) from by rw [← hd]; rfl)
  rw [hn] at h2' hmn ⊢
  obtain ⟨L, hL⟩ : ∃ L, (limbs a).length = L := ⟨_, rfl⟩
  rw [hL] at hmn h1' ⊢
  have hla' : L ≤ 1000000 := by omega
  have hL' := hL; have HL := hid hL; have HN := hid hn; have HLA := hid hla; have HLE := hid hle
  rw [hL] at HA; rw [hn] at HB
  clear ha hb hc h4' hx hd s1 hL hn hla hle hn1
  refine (callsIn_wide (n := 9)).1 ?_
  refine callsIn_of_wp_marks Tryz.func172 rfl trivial ?_ rfl
  simp only [Tryz.ntmps172, List.size_toArray, List.length_cons, List.length_nil, Nat.reduceAdd, Nat.reduceSub, Array.replicate_succ, Array.replicate_zero, List.push_toArray, List.append_toArray, List.nil_append, List.cons_append]
  gi_wp2_with fail
  refine ⟨trivial, (callsIn_wide.2 (l_Cmp _ _ _ a b HA.out HB.out HLA.out)).mono ?_⟩; rintro e w1 ⟨rfl, hb1⟩
  have d1 := (hb1.cell (p := ⟨g, o + (m - 1), none⟩) hg).trans HC.out
  have B1 := hid hb1; clear hb1
  obtain ⟨t, ht⟩ : ∃ t, ordN a b = t := ⟨_, rfl⟩
  rw [ht] at hord ⊢
  have q0 : decide (t < 0) = false := by simp; omega
  clear ht hord
  have q1 : ((m : Int) == 1) = false := by simp; omega
  gi_wp2_with fail
  clear q1
  rw [hdI.out]
  obtain ⟨W1, hW1⟩ : ∃ W1, w1.alloc (.cells #[.int .u64 (d : Int)] 112) = W1 := ⟨_, rfl⟩
  have BW1 := hid (show Below w.heap.size w W1 from by rw [← hW1]; exact B1.out.alloc B1.out.size _)
  have SB := hid (show Blk W1 w1.heap.size #[.int .u64 (d : Int)] 112 from by rw [← hW1]; exact Blk.new _ _ _)
  have hsz := hid (show w1.heap.size < W1.heap.size from SB.out.lt)
  have SC := hid (show IsN .u64 W1 (.slice (some ⟨w1.heap.size, 0, none⟩) 1 1) d from by
    unfold IsN
    rw [limbs_small s2 s3]
    exact Row.of_blk (n := 1) (c := 1) SB.out rfl (by unfold maxLen; omega) (fun i x hx => by simpa [ints] using hx) (Nat.le_refl _) (by unfold maxLen; omega))
  have SL := hid (show (limbs d).length ≤ 1000000 from by rw [limbs_small s2 s3]; simp)
  rw [hW1]
  clear hW1 d1
  refine ⟨trivial, (callsIn_wide.2 (l_Mul_own W1 _ _ a d (HA.out.call BW1.out) SC.out HLA.out SL.out)).mono ?_⟩; rintro e w2 ⟨⟨vm, rfl, hown⟩, hb2⟩
  obtain ⟨A, hA⟩ : ∃ A, (limbs (a * d)).length = A := ⟨_, rfl⟩
  have hAL : L ≤ A := by rw [← hL', ← hA]; exact limbs_length_mono (Nat.le_mul_of_pos_right a s2)
  have hAU : A ≤ L + 1 := by rw [← hA]; exact limbs_length_le.2 (mul_lim hL' s3)
  have HAD := hid hA
  rw [hA] at hown
  have O2 := hid hown; have B2 := hid hb2
  obtain ⟨am, cm, rfl⟩ := owns_ex hown
  clear hown hb2 hA
  gi_wp2_with (gi_at_builtin; refine wpListIn_append_own _ rfl _ _ 100 rfl W1.heap.size 112 i0 (.int .u64 0) 1 8 Tryz.underlying100 hi hz0 hz1 hz2 rfl (by decide) _ A _ rfl (O2.out.alloc _) ⟨w2.heap.size, 0, none⟩ 1 1 [.int .u64 0] rfl rfl (cell_one_new w2 (.int .u64 0) 112) (by simp [Value.oneCell']) (by unfold maxLen; omega) (by omega) (by have := B2.out.size; simp; omega) ?_; intro v' w3 hown3 hgrow3 _; have HO3 := hid hown3; have HG3 := hid hgrow3; clear hown3 hgrow3)
  obtain ⟨n1, n2⟩ := own_nextA (w := W1) (v := .slice am A cm) (s := limbs (a * d)) (z := 0) HAD.out O2.out B2.out HO3.out HG3.out
  obtain ⟨us, hus⟩ : ∃ us, limbs (a * d) ++ [0] = us := ⟨_, rfl⟩
  rw [hus] at n1
  have hul : us.length = A + 1 := by rw [← hus, List.length_append, HAD.out]; rfl
  obtain ⟨gu, cu, rfl, hgu, hcu, hcum, hPU⟩ := ArrP.of_owns n1 (by omega)
  have HUS := hid hus; have HUL := hid hul; have PU3 := hid hPU; have BW3 := hid (show Below W1.heap.size W1 w3 from n2); have BX3 := hid (bnext BW1.out n2)
  have hgul := hPU.lt
  rw [hul]
  rw [hul] at hcu
  clear n1 n2 hus hul hPU O2 HO3 HG3
  refine ⟨trivial, (callsIn_wide.2 (l_Mul_own w3 _ _ b d (HB.out.call BX3.out) (SC.out.call BW3.out) (by rw [HN.out]; omega) SL.out)).mono ?_⟩; rintro e w4 ⟨⟨vv, rfl, hvv⟩, hb4⟩
  obtain ⟨gv, cv, rfl, hgv, hcv, hcvm, hPV⟩ := ArrP.of_owns hvv (by rw [HS.out]; omega)
  have B4 := hid hb4; have BX4 := hid (bnext BX3.out hb4); have PV4 := hid hPV
  have hgvl := hPV.lt
  rw [HS.out] at hcv ⊢
  clear hvv hb4 hPV
  have qL : decide (A + 1 ≤ L) = false := by simp; omega
  gi_wp2_with fail
  obtain ⟨W5, hW5⟩ : ∃ W5, (w4.alloc (.cells #[.slice (some ⟨gu, 0, none⟩) (A + 1) cu] 100)).alloc (.cells #[.slice (some ⟨gv, 0, none⟩) m cv] 100) = W5 := ⟨_, rfl⟩
  have y9 : Blk W5 w4.heap.size #[.slice (some ⟨gu, 0, none⟩) (A + 1) cu] 100 := by rw [← hW5]; exact (Blk.new w4 _ _).alloc _
  have y10 : Blk W5 (w4.heap.size + 1) #[.slice (some ⟨gv, 0, none⟩) m cv] 100 := by rw [← hW5]; exact Blk.made _ _ _ (by simp)
  have B5 : Below w4.heap.size w4 W5 := by rw [← hW5]; exact ((Below.refl _ _).alloc (Nat.le_refl _) _).alloc (by simp) _
  have z5 : W5.heap.size = w4.heap.size + 2 := by rw [← hW5]; simp
  have b9 := y9.cell 0
  have b10 := y10.cell 0
  simp only [List.getElem?_toArray, List.getElem?_cons_zero] at b9 b10
  have l9 : w4.heap.size < W5.heap.size := by omega
  have l10 : w4.heap.size + 1 < W5.heap.size := by omega
  have Y9 := hid y9; have Y10 := hid y10; have HB5 := hid B5; have Z5 := hid z5
  obtain ⟨K, hK⟩ : ∃ K, K = A + 1 - m := ⟨_, rfl⟩
  have hKI : ((A : Int) + 1 - (m : Int)) = (K : Int) := by omega
  have hKL : K + m = A + 1 := by omega
  have hmk := fun W => make_nat K (by omega) W
  rw [hW5]
  clear hW5 y9 y10 B5 z5 hK
  gi_loopw [52] (fun _ wr => wr = W5) (fun _ _ => 0)
  case atStart => rfl
  case round =>
    obtain rfl := hrel
    gi_wp2_with fail
    have HMN := hid hmn
    refine ⟨trivial, (callsIn_wide.2 (back_call _ _ _ _)).mono ?_⟩; rintro e w' ⟨rfl, rfl⟩
    gi_wp2_with fail
    obtain ⟨W0, hW0⟩ : ∃ W0, (((wr.alloc (.cells #[.int .i64 m] 3)).alloc (.cells (madeCells #[.int .u64 0] K) 112)).alloc (.cells #[.slice (some ⟨wr.heap.size + 1, 0, none⟩) K K] 100)).alloc (.cells #[.slice (some ⟨wr.heap.size + 1, 0, none⟩) K K] 100) = W0 := ⟨_, rfl⟩
    have y11 : Blk W0 wr.heap.size #[.int .i64 m] 3 := by rw [← hW0]; exact (((Blk.new wr _ _).alloc _).alloc _).alloc _
    have y12 : Blk W0 (wr.heap.size + 1 + 1) #[.slice (some ⟨wr.heap.size + 1, 0, none⟩) K K] 100 := by rw [← hW0]; exact (Blk.made _ _ _ (by simp)).alloc _
    have y13 : Blk W0 (wr.heap.size + 1 + 1 + 1) #[.slice (some ⟨wr.heap.size + 1, 0, none⟩) K K] 100 := by rw [← hW0]; exact Blk.made _ _ _ (by simp)
    have yq : Arr .u64 112 W0 (wr.heap.size + 1) (List.replicate K 0) := by
      rw [← hW0]
      have := Arr.made (wr.alloc (.cells #[.int .i64 m] 3)) .u64 112 K
      rw [World.size_alloc] at this
      exact (Blk.alloc this _).alloc _
    have B0 : Below wr.heap.size wr W0 := by rw [← hW0]; exact ((((Below.refl _ _).alloc (Nat.le_refl _) _).alloc (by simp) _).alloc (by simp; omega) _).alloc (by simp; omega) _
    have z0 : W0.heap.size = wr.heap.size + 4 := by rw [← hW0]; simp
    have BX0 := hid (bnext (bnext BX4.out HB5.out) B0)
    have PU0 := hid (((PU3.out.call B4.out).call HB5.out).call B0)
    have V0 := hid ((PV4.out.call HB5.out).call B0)
    have S0 := hid ((((SB.out.call BW3.out).call B4.out).call HB5.out).call B0)
    have Y9' := hid (Y9.out.call B0); have Y10' := hid (Y10.out.call B0)
    rw [hW0]
    have Y11 := hid y11; have Y12 := hid y12; have Y13 := hid y13; have YQ := hid yq; have Z0 := hid z0
    have hw3 := B4.out.size; have hw1 := BW1.out.size; have hw13 := BW3.out.size
    clear hW0 y11 y12 y13 yq B0 z0 l9 l10 b9 b10 hmk hKI
    have i5 : w4.heap.size + 2 ≤ wr.heap.size := by have := Z5.out; omega
    have i0' : wr.heap.size + 4 ≤ W0.heap.size := by have := Z0.out; omega
    refine range_ok (by omega) (gf := 177) (lb := #[.pointer (some ⟨wr.heap.size + 1 + 1 + 1, 0, none⟩)]) rfl (enters_of Tryz.func177 (by kernel_rfl) rfl)
      (back_feeds (Kp := KpQ (wr.heap.size + 1 + 1 + 1) (wr.heap.size + 1) K) (V := fun _ _ => True) 8 (by omega) _ K K (some ⟨wr.heap.size + 1, 0, none⟩) (by omega) (Nat.le_refl _) W0 (KpQ.refl _ _ _) KpQ.trans (fun W1 W2 b1 b2 => ?hread)) KpQ.trans (KpQ.put (by omega)) (Below.refl _ _) (fun _ => rfl)
      (fun pre W => (∃ o Q, DivI (a * d) (b * d) m (A + 1) (K - pre.length) o Q ∧ ArrP .u64 112 W gu o ∧ Arr .u64 112 W (wr.heap.size + 1) Q) ∧ Keep2 W0 W gu (some (wr.heap.size + 1)))
      (fun c pre W => False)
      (fun s A B row hs hg hr => ⟨by
        obtain ⟨o, Q, h1, h2, h3⟩ := hs.1
        obtain ⟨cs, h2a, h2b⟩ := h2
        exact ⟨o, Q, h1, ⟨cs, h2a.kept hg (fun r e => (hr r e).2), h2b⟩, Blk.kept h3 hg (fun r e => (hr r e).2)⟩, hs.2.grown hg (fun k e => .inr (.inr (hr k e).1))⟩)
      (fun c s A B row hs hg hr => hs)
      ⟨⟨us, _, ?start, PU0.out, YQ.out⟩, Keep2.refl _ _ _⟩ ?act ?assign ?body ?done ?stop
    case hread =>
      obtain ⟨Q, hq, hql⟩ := b2.2 ⟨_, YQ.out.call b1, by simp⟩
      refine ⟨?_, fun i hi => ?_⟩
      · have h1 : Blk W2 (wr.heap.size + 1 + 1 + 1) #[.slice (some ⟨wr.heap.size + 1, 0, none⟩) K K] 100 := b2.1.trans (Y13.out.call b1)
        exact h1.cell 0
      · exact ⟨_, 0, _, rfl, by rw [Nat.zero_add]; exact hq.cell (List.getElem?_eq_getElem (by omega)), trivial⟩
    case start =>
      have h1 : 1000000000 ^ (m - 1) ≤ b := limbs_lt_length.1 (by rw [HN.out]; omega)
      have h2 : b * d ≤ 1000000000 ^ m := Nat.le_of_lt (limbs_length_le.1 (by rw [HS.out]; exact Nat.le_refl _))
      have hsu : Sm us := by rw [← HUS.out]; exact (sm_limbs _).append (Sm.cons (by omega) Sm.nil)
      have hvu : val us = a * d := by rw [← HUS.out, val_append, val_limbs]; simp [val_cons]
      have := DivI.start (U := a * d) (V := b * d) (n := m) (L := A + 1) h2 hsu HUL.out (by omega) hvu (by
        rw [← HUS.out]
        exact top_zero HAD.out (by omega) (by omega) h1 s2)
      rw [show A + 1 - m = K by omega] at this
      simpa using this
    case assign =>
      intro l x W KK hK
      gi_wp2
      exact hK
    case stop =>
      rintro D c pre W hD - h
      exact h.elim
    case done =>
      rintro D xs W hD hx ⟨⟨o2, Q, hDI, hU, hQ⟩, hKp⟩ hK
      rw [hx, Nat.sub_self] at hDI
      obtain ⟨r1, r2, r3⟩ := hDI.done (by omega)
      have hfin := hid (div_end (a := a) (b := b) s2 r1 r2)
      have R3 := hid r3
      have hlen := hid (show (limbs (val (o2.take m))).length ≤ 1000000 from by
        rw [r3]
        have := limbs_length_mono (Nat.le_of_lt r2)
        rw [HS.out] at this
        omega)
      have hol := hid hDI.lo
      have hql := hid (show Q.length = K from by rw [hDI.lq]; omega)
      have k9 := hKp.blk Y9'.out (by omega) (by simp; omega)
      have k11 := hKp.blk Y11.out (by omega) (by simp)
      have k12 := hKp.blk Y12.out (by omega) (by simp)
      have ks := hKp.blk S0.out (by have := hsz.out; omega) (by have := hsz.out; simp; omega)
      have c9 := k9.cell 0
      have c11 := k11.cell 0
      have c12 := k12.cell 0
      have cs0 := ks.cell 0
      simp only [List.getElem?_toArray, List.getElem?_cons_zero] at c9 c11 c12 cs0
      have ru := hid (show Row W (.slice (some ⟨gu, 0, none⟩) m cu) (ints .u64 (o2.take m)) from hU.row (by rw [hol.out]; omega) (by omega) hcum)
      have smu := hid (hDI.so.take m); have smq := hid hDI.sq
      have HQ := hid hQ; have HKP := hid hKp; have HK := hid hK
      have BW := hid (show Below w.heap.size w W from BX0.out.trans (hKp.below (B := w.heap.size) (by omega) (by omega) (fun x e => by injection e; omega)))
      have f1 : (m : Int) ≤ (cu : Int) := by omega
      clear hx hDI r1 r2 r3 k9 k11 k12 ks hU hQ hKp hK
      have htr : Calls Tryz.prog 136 #[.slice (some ⟨gu, 0, none⟩) m cu] W.drew fun e w' => e = .returned (.slice (some ⟨gu, 0, none⟩) (limbs (val o2)).length cu) ∧ w' = W.drew := by
        have := l_trim_to W.drew (some ⟨gu, 0, none⟩) cu (o2.take m) smu.out (by rw [List.length_take_of_le (by rw [hol.out]; omega)]; exact ru.out.drew)
        rwa [List.length_take_of_le (by rw [hol.out]; omega), R3.out] at this
      have hin := hid (show IsN .u64 W.drew (.slice (some ⟨gu, 0, none⟩) (limbs (val o2)).length cu) (val o2) from by
        have := trim_isN (c := cu) (a := some ⟨gu, 0, none⟩) smu.out (by rw [List.length_take_of_le (by rw [hol.out]; omega)]; exact ru.out.drew)
        rwa [R3.out] at this)
      have hlen2 := hid (show (limbs (val o2)).length ≤ 1000000 from by have := hlen.out; rwa [R3.out] at this)
      have HTR := hid htr; clear htr
      gi_wp2
      refine wpIn_wide.2 ?_
      go_region_held3 (fun w' => w'.cell? ⟨w4.heap.size, 0, none⟩ = some (.slice (some ⟨gu, 0, none⟩) (A + 1) cu) ∧ w'.cell? ⟨wr.heap.size, 0, none⟩ = some (.int .i64 (m : Int)) ∧ w'.cell? ⟨w1.heap.size, 0, none⟩ = some (.int .u64 (d : Int)))
        (first
          | exact ⟨c9, c11, cs0⟩
          | exact ⟨(B6.out.cell (p := ⟨_, _, _⟩) (cell_lt (a := ⟨w4.heap.size, 0, none⟩) c9)).trans c9, (B6.out.cell (p := ⟨_, _, _⟩) (cell_lt (a := ⟨wr.heap.size, 0, none⟩) c11)).trans c11, (B6.out.cell (p := ⟨_, _, _⟩) (cell_lt (a := ⟨w1.heap.size, 0, none⟩) cs0)).trans cs0⟩)
        (first
          | (go_at_call 136; refine HTR.out.mono ?_; rintro e w' ⟨rfl, rfl⟩)
          | (go_at_call 193; refine (l_small _ _ (val o2) d hin.out s2 s3 hlen2.out).mono ?_; rintro e w6 ⟨⟨v6, rfl, hv6⟩, hb6⟩; have V6 := hid hv6; have B6 := hid (show Below W.heap.size W w6 from ⟨hb6.os, hb6.tape, hb6.output, hb6.size, hb6.block⟩); clear hv6 hb6))
      have c12' := (B6.out.cell (p := ⟨_, _, _⟩) (cell_lt (a := ⟨wr.heap.size + 1 + 1, 0, none⟩) c12)).trans c12
      have HQ6 := hid (HQ.out.call B6.out)
      have rq := hid (show Row w6 (.slice (some ⟨wr.heap.size + 1, 0, none⟩) Q.length K) (ints .u64 Q) from by
        have := HQ6.out.row (n := K) (c := K) (by rw [hql.out]; exact Nat.le_refl _) (Nat.le_refl _) (by unfold maxLen; omega)
        rw [hql.out]
        rwa [List.take_of_length_le (by rw [hql.out]; exact Nat.le_refl _)] at this)
      clear c9 c11 c12 cs0
      have HK6 := hid (show w6.heap[D]? = some (.deferred (some [])) from (B6.out.block D (Array.getElem?_eq_some_iff.1 HK.out).1).trans HK.out)
      gi_wp2_with (refine ⟨trivial, ?_⟩; gi_at_call 136; have htq := l_trim_to w6 (some ⟨wr.heap.size + 1, 0, none⟩) K Q smq.out rq.out; rw [hql.out] at htq; refine (callsIn_wide.2 htq).mono ?_; clear htq; rintro e w' ⟨rfl, rfl⟩)
      refine marks_end HK6.out (v := .tuple #[.slice (some ⟨wr.heap.size + 1, 0, none⟩) (limbs (val Q)).length K, v6]) (by simp [results, Tryz.results172, go_sem]) ⟨⟨_, _, rfl, ?_, ?_⟩, ?_⟩
      · have h1 := trim_isN smq.out rq.out
        have h2 := IsN.put h1 HK6.out (.deferred none)
        rw [← hfin.out.1]
        exact h2
      · have h2 := IsN.put V6.out HK6.out (.deferred none)
        rwa [hfin.out.2] at h2
      · exact (bnext BW.out B6.out).trans (belowK_b (w := w) (Nat.le_refl _) _ D _ _ (by omega) HK6.out rfl rfl)
    case body =>
      rintro l pre ⟨j, z⟩ W ⟨hj, -⟩ ⟨⟨o2, Q, hD, hU, hQ⟩, hKp⟩
      dsimp only at hj
      rw [show K - pre.length = j + 1 by omega] at hD
      have hol : o2.length = A + 1 := hD.lo
      have hql : Q.length = K := by rw [hD.lq]; omega
      have hV := hid (val_limbs (b * d))
      have hSI := hid (show StepIn o2 (limbs (b * d)) j m from ⟨hm2, by omega, HS.out, by rw [hol]; omega, by rw [hol]; omega, hD.so, sm_limbs _, limbs_top (n := m - 1) (by rw [HS.out]; omega), by rw [hV.out]; exact hD.win (by omega)⟩)
      obtain ⟨zq, hzq⟩ : ∃ z, Q[j]? = some z := ⟨_, List.getElem?_eq_getElem (by omega)⟩
      have k9 := hKp.blk Y9'.out (by omega) (by simp; omega)
      have k10 := hKp.blk Y10'.out (by omega) (by simp; omega)
      have k11 := hKp.blk Y11.out (by omega) (by simp)
      have k12 := hKp.blk Y12.out (by omega) (by simp)
      have kv : ArrP .u64 112 W gv (limbs (b * d)) := by
        obtain ⟨cs, h1, h2⟩ := V0.out
        exact ⟨cs, hKp.blk h1 (by omega) (by simp; omega), h2⟩
      have rv := hid (show Row W (.slice (some ⟨gv, 0, none⟩) m cv) (ints .u64 (limbs (b * d))) from by
        have := kv.row (n := m) (c := cv) (by rw [HS.out]; exact Nat.le_refl _) hcv hcvm
        rwa [List.take_of_length_le (by rw [HS.out]; exact Nat.le_refl _)] at this)
      have c9 := k9.cell 0
      have c10 := k10.cell 0
      have c11 := k11.cell 0
      have c12 := k12.cell 0
      simp only [List.getElem?_toArray, List.getElem?_cons_zero] at c9 c10 c11 c12
      have HJ := hid hj; have HD := hid hD; have HU := hid hU; have HQ := hid hQ; have HKP := hid hKp; have HQL := hid hql; have HZQ := hid hzq
      have K9 := hid k9; have K10 := hid k10; have K11 := hid k11; have K12 := hid k12
      have f1 : (0 : Int) ≤ (j : Int) := by omega
      have f2 : (j : Int) < (K : Int) := by omega
      have f3 : (j : Int) + (m : Int) + 1 ≤ (cu : Int) := by omega
      have f4 : (j : Int) ≤ (j : Int) + (m : Int) + 1 := by omega
      have hjm : j + m ≤ 2000002 := by omega
      clear hj hD hU hQ hKp hql hzq hol k9 k10 k11 k12 kv
      have e1 : IntKind.i64.wrap ((j : Int) + m) = (j : Int) + m := IntWalk.i64_in _ (by omega)
      have e2 : IntKind.i64.wrap ((j : Int) + m + 1) = (j : Int) + m + 1 := IntWalk.i64_in _ (by omega)
      have e3 : ((j : Int) + m + 1).toNat = j + m + 1 := by omega
      gi_wp2
      refine held_round_lex 10 (fun W' => W'.cell? ⟨wr.heap.size + 1 + 1, 0, none⟩ = some (.slice (some ⟨wr.heap.size + 1, 0, none⟩) K K) ∧ W'.cell? ⟨w4.heap.size, 0, none⟩ = some (.slice (some ⟨gu, 0, none⟩) (A + 1) cu) ∧ W'.cell? ⟨wr.heap.size, 0, none⟩ = some (.int .i64 (m : Int)) ∧ W'.cell? ⟨w4.heap.size + 1, 0, none⟩ = some (.slice (some ⟨gv, 0, none⟩) m cv)) (by kernel_rfl) (by kernel_rfl) (by kernel_rfl) rfl (by kernel_rfl) ⟨c12, c9, c11, c10⟩ ?_
      simp only [List.take_succ_cons, List.take_zero]
      iterate 10
        apply Exists.intro
        refine ⟨.inl ⟨by rfl, ?_⟩, ?_⟩
        · (intro W' hW'
           obtain ⟨q1, q2, q3, q4⟩ := hW'
           go_simp
           try (with_reducible rfl))
        simp only [Act.put, List.setIfInBounds_toArray, List.set_cons_zero, List.set_cons_succ]
      refine held_one (i := 10) (by kernel_rfl) (by rfl) (by rfl) ?_
      go_wp2_with fail
      rw [show j + m + 1 - j = m + 1 by omega]
      refine (l_estimate _ gu j _ o2 gv 0 _ (limbs (b * d)) m hSI.out (HU.out.drewN 1) (rv.out.drewN 1) (by omega)).mono ?_
      rintro e w5 ⟨he, o5, hw5, hA5, hg5⟩
      rw [hV.out] at he hw5
      have HN5 := hid (HD.out.next (by omega) hw5)
      obtain ⟨qv, hqv⟩ : ∃ q, val ((o2.drop j).take (m + 1)) / (b * d) = q := ⟨_, rfl⟩
      rw [hqv] at he HN5
      subst he
      have A5 := hid hA5; have G5 := hid (show W.grownBy w5 (some gu) from ⟨hg5.os, hg5.tape, hg5.output, hg5.size, hg5.block⟩)
      have Q5 := hid (Arr.gb HQ.out G5.out (by omega))
      have s12 := gb_cell G5.out c12 (by simp <;> omega)
      have s9 := gb_cell G5.out c9 (by simp <;> omega)
      have s11 := gb_cell G5.out c11 (by simp <;> omega)
      have s10 := gb_cell G5.out c10 (by simp <;> omega)
      have d3 := Q5.out.cell HZQ.out
      have d4 := Q5.out.free j
      clear hw5 hA5 hg5 hqv c9 c10 c11 c12
      go_wp2_with fail
      refine ⟨⟨s12, s9, s11, s10⟩, held_one (i := 11) (by kernel_rfl) (by rfl) (by rfl) ?_⟩
      go_wp2_with fail
      refine ⟨⟨s12, s9, s11, s10⟩, held_one (i := 12) (by kernel_rfl) (by rfl) (by rfl) ?_⟩
      go_wp2_with fail
      have q5 := Q5.out.set j qv
      refine ⟨⟨?_, ?_, ?_, ?_⟩, wpAnyH_done (by kernel_rfl) ?_ _⟩
      · rw [World.cell?_setCell_other _ _ _ _ (by simp <;> omega)]; exact s12
      · rw [World.cell?_setCell_other _ _ _ _ (by simp <;> omega)]; exact s9
      · rw [World.cell?_setCell_other _ _ _ _ (by simp <;> omega)]; exact s11
      · rw [World.cell?_setCell_other _ _ _ _ (by simp <;> omega)]; exact s10
      simp only [Only]
      gi_wp2
      have k13 := HKP.out.blk Y13.out (by omega) (by simp <;> omega)
      have l13 := k13.lt
      refine ⟨(KeepsFrom.of_grownBy G5.out (fun k e => by injection e; omega)).trans ((KeepsOthers.setCell _ _ _).from _), ⟨?_, fun _ => ⟨_, q5, by rw [List.length_set, HQL.out]⟩⟩, ⟨o5, _, ?_, A5.out.other (by simp <;> omega) _, q5⟩, (HKP.out.grown G5.out (fun k e => by injection e; omega)).set (.inr (.inl rfl)) _⟩
      · rw [Below.heap_setCell _ _ _ _ (by simp <;> omega)]
        exact G5.out.block _ l13 (by simp <;> omega)
      · rw [List.length_append, List.length_singleton, show K - (pre.length + 1) = j by have := HJ.out; omega]
        exact HN5.out

/-- THE LONG DIVISION of the program, whole. -/
theorem l_DivMod (w : World) (v u : Value) (a b : Nat) (ha : IsN .u64 w v a) (hb : IsN .u64 w u b) (h0 : 0 < b) (hla : (limbs a).length ≤ 1000000) :
    Calls Tryz.prog 172 #[v, u] w fun e w' => RetNN .u64 (a / b) (a % b) e w' ∧ Below w.heap.size w w' := by
  by_cases hlt : a < b
  · exact l_divmod_less w v u a b ha hb hlt hla
  · by_cases h1 : b < 1000000000
    · exact l_divmod_one w v u a b ha hb (by omega) h0 h1 hla
    · refine l_divmod_many w v u a b _ ha hb (by omega) rfl ?_ hla
      have : 1 < (limbs b).length := limbs_lt_length.2 (by omega)
      omega
end Go.Proofs.YtikfgddgfddbaaaGreatDoor
