/- A region that draws its order, whose last operation waits for all the others: it may be split off. -/
import Derived.Orders
import Derived.WalkKit
namespace Go.Proofs.Ytjpkglgbcflbnaa
open Go.RowKit
variable {P : Program} {ops : Array Oper} {oz : Oper} {Q Q' : Exit → Act → World → Prop} {md : Region.Mode}

theorem wp_turn {o : Oper} {a : Act} {w : World} {K K' : Act → World → Prop} (hK : ∀ a w, K a w → K' a w) (hP : ∀ c a w, Q' (.panic c) a w → Q (.panic c) a w) (hL : LetsOut Q' → LetsOut Q)
    (h : o.wp P a w K Q') : o.wp P a w K' Q := by
  unfold Oper.wp at *
  generalize (execOp a.eval o).run P w = r at *
  cases r with
  | ok n w' =>
    cases n <;> simp only [Oper.upon] at h ⊢
    case value u => exact hK _ _ h
    case skip => exact hK _ _ h
    case defer d => exact hK _ _ h
    case enter f args =>
      refine Calls.mono h fun e w'' he => ?_
      cases e with
      | returned u => exact hK _ _ he
      | panicked c => exact hP _ _ _ he
      | outgrown => exact hL he
    case row row args => exact Rows.mono h fun u w'' he => hK _ _ he
  | halt x w' =>
    cases x <;> simp only [Oper.upon] at h ⊢
    case panic u => exact hP _ _ _ h

/-- All are listed. -/
def AllOn (n : Nat) (listed : Array Bool) : Prop := ∀ i, i < n → listed.getD i false = true

theorem all_of_none (hfwd : ∀ i o, ops[i]? = some o → ∀ e ∈ o.after, Region.binds md e = true → e.on < i) {listed : Array Bool} (hs : listed.size = ops.size) (hr : Region.ready md ops listed = []) : AllOn ops.size listed := by
  intro i
  induction i using Nat.strongRecOn with
  | _ i ih =>
    intro hi
    refine Decidable.byContradiction fun hn => ?_
    have hm : i ∈ Region.ready md ops listed := by
      rw [mem_ready]
      refine ⟨?_, ops[i], Array.getElem?_eq_getElem hi, fun e he hb => ih e.on (hfwd i _ (Array.getElem?_eq_getElem hi) e he hb) (by have := hfwd i _ (Array.getElem?_eq_getElem hi) e he hb; omega)⟩
      have h1 : i < listed.size := by omega
      simp [Array.getD, h1] at hn ⊢
      exact hn
    rw [hr] at hm
    cases hm

/-- Whatever is listed, what it waits for is listed too. -/
def Closed (md : Region.Mode) (ops : Array Oper) (listed : Array Bool) : Prop := ∀ j o, ops[j]? = some o → listed.getD j false = true → ∀ e ∈ o.after, Region.binds md e = true → listed.getD e.on false = true

/-- The last waits for i: outright, or over one other. -/
def Waits (md : Region.Mode) (ops : Array Oper) (oz : Oper) (i : Nat) : Prop :=
  ∃ e ∈ oz.after, Region.binds md e = true ∧ (e.on = i ∨ ∃ o, ops[e.on]? = some o ∧ ∃ f ∈ o.after, Region.binds md f = true ∧ f.on = i)

theorem Closed.set {listed : Array Bool} {i : Nat} (h : Closed md ops listed) (hi : i ∈ Region.ready md ops listed) : Closed md ops (listed.setIfInBounds i true) := by
  intro j o ho hj e he hb
  rw [mem_ready] at hi
  obtain ⟨_, o', ho', hall⟩ := hi
  by_cases hji : i = j
  · subst hji
    rw [ho] at ho'
    cases ho'
    exact getD_set_true (hall e he hb)
  · have hj' := hj
    rw [getD_set_ne false hji] at hj'
    exact getD_set_true (h j o ho hj' e he hb)

theorem getD_push_lt {listed : Array Bool} {b : Bool} {i : Nat} {d : Bool} (h : i < listed.size) : (listed.push b).getD i d = listed.getD i d := by
  simp [Array.getD, h, Nat.lt_succ_of_lt h, Array.getElem_push_lt h]

theorem ready_push_all {listed : Array Bool} (hs : listed.size = ops.size) (hall : AllOn ops.size listed) :
    ∀ j, j ∈ Region.ready md (ops.push oz) (listed.push false) → j = ops.size := by
  intro j hj
  rw [mem_ready] at hj
  obtain ⟨h0, o, ho, _⟩ := hj
  have hlt : j < ops.size + 1 := by have := (Array.getElem?_eq_some_iff.1 ho).1; simpa using this
  refine Decidable.byContradiction fun hne => ?_
  have hj' : j < ops.size := by omega
  rw [getD_push_lt (by omega)] at h0
  have := hall j hj'
  have h1 : j < listed.size := by omega
  simp [Array.getD, h1] at h0 this
  rw [h0] at this; cases this

theorem ready_push_some (hz : ∀ e ∈ oz.after, Region.binds md e = true → e.on < ops.size) (hz2 : ∀ i, i < ops.size → Waits md ops oz i) (hfwd : ∀ i o, ops[i]? = some o → ∀ e ∈ o.after, Region.binds md e = true → e.on < i) {listed : Array Bool} (hs : listed.size = ops.size) (hcl : Closed md ops listed) (hn : ¬ AllOn ops.size listed) :
    ∀ j, j ∈ Region.ready md (ops.push oz) (listed.push false) → j ∈ Region.ready md ops listed := by
  intro j hj
  rw [mem_ready] at hj ⊢
  obtain ⟨h0, o, ho, hall⟩ := hj
  have hlt : j < ops.size + 1 := by have := (Array.getElem?_eq_some_iff.1 ho).1; simpa using this
  by_cases hj' : j = ops.size
  · subst hj'
    have : o = oz := by simpa using ho.symm
    subst this
    exact absurd (fun i hi => by
      obtain ⟨e, he, hb, hon⟩ := hz2 i hi
      have h1 := hall e he hb
      have h2 := hz e he hb
      rw [getD_push_lt (by omega)] at h1
      rcases hon with rfl | ⟨o', ho', f, hf, hfb, rfl⟩
      · exact h1
      · exact hcl _ o' ho' h1 f hf hfb) hn
  · have hjl : j < ops.size := by omega
    rw [Array.getElem?_push_lt hjl] at ho
    rw [getD_push_lt (by omega)] at h0
    refine ⟨h0, o, by rw [Array.getElem?_eq_getElem hjl]; exact ho, fun e he hb => ?_⟩
    have h1 := hall e he hb
    have h2 := hfwd j o (by rw [Array.getElem?_eq_getElem hjl]; exact ho) e he hb
    rwa [getD_push_lt (by omega)] at h1

theorem set_push {listed : Array Bool} {i : Nat} (h : i < listed.size) : (listed.push false).setIfInBounds i true = (listed.setIfInBounds i true).push false := by
  apply Array.ext_getElem?
  intro k
  simp only [Array.getElem?_setIfInBounds, Array.getElem?_push, Array.size_push, Array.size_setIfInBounds]
  by_cases hk : i = k
  · subst hk; simp [h, Nat.lt_succ_of_lt h]; omega
  · simp [hk]

/-- THE SPLITTING: what the others leave in 'Q' .normal', the last operation carries on. -/
theorem wpAny_last (hgd : ∀ (i : Nat) (o : Oper), ops[i]? = some o → o.guard = none) (hgz : oz.guard = none)
    (hz : ∀ e ∈ oz.after, Region.binds md e = true → e.on < ops.size) (hz2 : ∀ i, i < ops.size → Waits md ops oz i)
    (hfwd : ∀ i o, ops[i]? = some o → ∀ e ∈ o.after, Region.binds md e = true → e.on < i)
    (hP : ∀ c a w, Q' (.panic c) a w → Q (.panic c) a w) (hL : LetsOut Q' → LetsOut Q) (hN : ∀ a w, Q' .normal a w → oz.wp P a w (fun a w => Q .normal a w) Q ∨ (oz.asks P a w ∧ LetsOut Q)) :
    ∀ (fuel : Nat) (listed : Array Bool) (a : Act) (w : World), listed.size = ops.size → Closed md ops listed → wpAny P md ops Q' fuel listed a w → wpAny P md (ops.push oz) Q (fuel + 1) (listed.push false) a w := by
  have lastStep : ∀ (fuel : Nat) (listed : Array Bool) (a : Act) (w : World), listed.size = ops.size → AllOn ops.size listed → Q' .normal a w → wpAny P md (ops.push oz) Q (fuel + 1) (listed.push false) a w := by
    intro fuel listed a w hs hall hq
    have hmem : ops.size ∈ Region.ready md (ops.push oz) (listed.push false) := by
      rw [mem_ready]
      refine ⟨by rw [← hs]; simp [Array.getD], oz, by simp, fun e he hb => ?_⟩
      have := hz e he hb
      rw [getD_push_lt (by omega)]
      exact hall _ this
    refine ⟨fun h => (by rw [h] at hmem; cases hmem), fun j hj => ?_⟩
    have hje := ready_push_all hs hall j hj
    subst hje
    have hdone : Region.ready md (ops.push oz) ((listed.push false).setIfInBounds ops.size true) = [] := by
      refine List.eq_nil_iff_forall_not_mem.2 fun k hk => ?_
      rw [mem_ready] at hk
      obtain ⟨h0, o, ho, _⟩ := hk
      have hlt : k < ops.size + 1 := by have := (Array.getElem?_eq_some_iff.1 ho).1; simpa using this
      by_cases hk' : k = ops.size
      · subst hk'; simp [Array.getD, hs] at h0
      · have h1 : k < ops.size := by omega
        have h2 := hall k h1
        have h3 : k < listed.size := by omega
        simp [Array.getD, h3, Nat.lt_succ_of_lt h3, Ne.symm hk', Array.getElem_push_lt h3] at h0 h2
        rw [h0] at h2; cases h2
    unfold wpOp
    simp only [Array.getElem?_push_size]
    have hw : Region.wanted oz (yielded (ops.push oz) a.tmps) = true := by simp [Region.wanted, hgz]
    rw [if_pos hw]
    refine (hN a w hq).imp (fun hx => Oper.wp_mono (fun a' w' h' => ?_) hx) id
    cases fuel with
    | zero => exact ⟨hdone, h'⟩
    | succ fuel => exact ⟨fun _ => h', fun k hk => by rw [hdone] at hk; cases hk⟩
  intro fuel
  induction fuel with
  | zero =>
    intro listed a w hs _ h
    exact lastStep 0 listed a w hs (all_of_none hfwd hs h.1) h.2
  | succ fuel ih =>
    intro listed a w hs hcl h
    by_cases hall : AllOn ops.size listed
    · refine lastStep (fuel + 1) listed a w hs hall (h.1 (List.eq_nil_iff_forall_not_mem.2 fun k hk => ?_))
      rw [mem_ready] at hk
      obtain ⟨h0, o, ho, _⟩ := hk
      have h1 := (Array.getElem?_eq_some_iff.1 ho).1
      have h2 := hall k h1
      have h3 : k < listed.size := by omega
      simp [Array.getD, h3] at h0 h2
      rw [h0] at h2; cases h2
    · refine ⟨fun hr => ?_, fun j hj => ?_⟩
      · have : Region.ready md ops listed = [] := List.eq_nil_iff_forall_not_mem.2 fun k hk => by
          have hk2 : k ∈ Region.ready md (ops.push oz) (listed.push false) := by
            rw [mem_ready] at hk ⊢
            obtain ⟨h0, o, ho, hh⟩ := hk
            have h1 := (Array.getElem?_eq_some_iff.1 ho).1
            refine ⟨by rw [getD_push_lt (by omega)]; exact h0, o, by rw [Array.getElem?_push_lt h1, ← Array.getElem?_eq_getElem h1]; exact ho, fun e he hb => ?_⟩
            rw [getD_push_lt (by have := hfwd k o ho e he hb; omega)]
            exact hh e he hb
          rw [hr] at hk2; cases hk2
        exact absurd (all_of_none hfwd hs this) hall
      · have hj' := ready_push_some hz hz2 hfwd hs hcl hall j hj
        have h1 := h.2 j hj'
        have hlt : j < ops.size := by
          rw [mem_ready] at hj'
          obtain ⟨_, o, ho, _⟩ := hj'
          exact (Array.getElem?_eq_some_iff.1 ho).1
        unfold wpOp at h1 ⊢
        rw [Array.getElem?_push_lt hlt]
        rw [Array.getElem?_eq_getElem hlt] at h1
        simp only at h1 ⊢
        have hg := hgd j _ (Array.getElem?_eq_getElem hlt)
        have hw1 : Region.wanted ops[j] (yielded (ops.push oz) a.tmps) = true := by simp [Region.wanted, hg]
        have hw2 : Region.wanted ops[j] (yielded ops a.tmps) = true := by simp [Region.wanted, hg]
        rw [if_pos hw1]
        rw [if_pos hw2] at h1
        rcases h1 with h1 | ⟨h1, h2⟩
        · refine .inl (wp_turn (fun a' w' h' => ?_) hP hL h1)
          rw [set_push (by omega)]
          exact ih _ _ _ (by simp [hs]) (hcl.set hj') h'
        · exact .inr ⟨h1, hL h2⟩

/-- The facts on a region's operations that the splitting asks, as one test. -/
def splitB (ops : Array Oper) (oz : Oper) : Bool :=
  ops.toList.all (fun o => o.guard.isNone) && oz.guard.isNone && oz.after.toList.all (fun e => decide (e.on < ops.size)) &&
  (List.range ops.size).all (fun i => oz.after.toList.any fun e => Region.binds .any e && (e.on == i || (match ops[e.on]? with | some o => o.after.toList.any (fun f => Region.binds .any f && f.on == i) | none => false))) &&
  (List.range ops.size).all (fun i => match ops[i]? with | some o => o.after.toList.all (fun e => decide (e.on < i)) | none => true)

theorem wp_region_split {id : Nat} {a : Act} {w : World} (hm : P.follows .mixedOrders = true) (hB : splitB ops oz = true)
    (hP : ∀ c a w, Q' (.panic c) a w → Q (.panic c) a w) (hL : LetsOut Q' → LetsOut Q) (hN : ∀ a w, Q' .normal a w → oz.wp P a w (fun a w => Q .normal a w) Q ∨ (oz.asks P a w ∧ LetsOut Q))
    (h : wpAny P .any ops Q' ops.size (Array.replicate ops.size false) a { w with drawn := w.drawn + 1 }) : (Code.region id (ops.push oz) true).wp P Q a w := by
  simp only [splitB, Bool.and_eq_true, List.all_eq_true, List.any_eq_true, List.mem_range, decide_eq_true_eq, Option.isNone_iff_eq_none, Array.mem_toList_iff] at hB
  obtain ⟨⟨⟨⟨h1, h2⟩, h3⟩, h4⟩, h5⟩ := hB
  have hl := wpAny_last (P := P) (md := .any) (ops := ops) (oz := oz) (fun i o ho => h1 o (Array.mem_of_getElem? ho)) h2 (fun e he _ => h3 e he)
    (fun i hi => by
      obtain ⟨e, he, hb, hon⟩ := h4 i hi
      refine ⟨e, he, hb, ?_⟩
      simp only [Bool.or_eq_true, beq_iff_eq] at hon
      refine hon.imp (fun h => h) fun hx => ?_
      split at hx
      · rename_i o ho
        simp only [List.any_eq_true, Bool.and_eq_true, beq_iff_eq, Array.mem_toList_iff] at hx
        obtain ⟨f, hf, hfb, hfo⟩ := hx
        exact ⟨o, ho, f, hf, hfb, hfo⟩
      · cases hx)
    (fun i o ho e he _ => by
      have := h5 i (Array.getElem?_eq_some_iff.1 ho).1
      rw [ho] at this
      simp only [List.all_eq_true, Array.mem_toList_iff, decide_eq_true_eq] at this
      exact this e he) hP hL hN ops.size (Array.replicate ops.size false) a { w with drawn := w.drawn + 1 } (by simp) (fun j o _ hj => by simp [Array.getD] at hj) h
  refine wp_region_any hm ?_
  have hr : Array.replicate (ops.push oz).size false = (Array.replicate ops.size false).push false := by
    rw [Array.size_push]
    exact Array.replicate_succ
  rw [hr, Array.size_push]
  exact hl

/-- What the others must leave: the last operation's walk; no panic. -/
def Then1 (P : Program) (ops : Array Oper) (Q : Exit → Act → World → Prop) (oz : Oper) : Exit → Act → World → Prop
  | .normal, a, w => wpList P ops Q [oz] a w
  | .panic _, _, _ => False
  | e, a, w => Q e a w

theorem region_last {id : Nat} {a : Act} {w : World} {l : List Oper} (n : Nat) (hm : P.follows .mixedOrders = true) (hl : l.drop n = [oz]) (hB : splitB (l.take n).toArray oz = true)
    (h : wpAny P .any (l.take n).toArray (Then1 P l.toArray Q oz) (l.take n).toArray.size (Array.replicate (l.take n).toArray.size false) a w.drew) : (Code.region id l.toArray true).wp P Q a w := by
  have he : l.toArray = (l.take n).toArray.push oz := by
    rw [List.push_toArray, ← hl, List.take_append_drop]
  have hgz : oz.guard = none := by
    simp only [splitB, Bool.and_eq_true, Option.isNone_iff_eq_none] at hB
    exact hB.1.1.1.2
  have hr := wp_region_split (P := P) (id := id) (a := a) (w := w) (Q := Q) (Q' := Then1 P l.toArray Q oz) hm hB (fun _ _ _ h => h.elim) (fun ⟨a, w, h⟩ => ⟨a, w, h⟩) (fun a w hq => by
    have hq' : wpList P l.toArray Q [oz] a w := hq
    unfold wpList at hq'
    have hw : Region.wanted oz (yielded l.toArray a.tmps) = true := by simp [Region.wanted, hgz]
    rw [if_pos hw] at hq'
    exact hq') h
  rw [he]
  exact hr
end Go.Proofs.Ytjpkglgbcflbnaa
