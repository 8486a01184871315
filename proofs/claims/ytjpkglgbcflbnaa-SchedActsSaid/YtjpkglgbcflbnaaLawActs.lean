/- The law SchedActs: for every input the call returns true and leaves its arguments as they were. The join of the walk acts_law with the given row. -/
import Derived.Test.YtjpkglgbcflbnaaRows
import Derived.Test.YtjpkglgbcflbnaaActs
import Derived.Test.YtjpkglgbcflbnaaJoins
import Derived.WalkKit
import Derived.ProofKit
import Derived.OpenShut
import Derived.ShutString
import Derived.Lib.SmallJoins
import Derived.Deep.Slices
import Derived.ChangeSame
namespace Go.Proofs.Ytjpkglgbcflbnaa.schedActs
open Go.ChangeShapes Go.WideShapes Go.ChangeAt Go.RowKit
open Go.ChangeMaps (open_string shut_string)
set_option linter.unusedVariables false

theorem own : ownKnob Try.prog.godebug = none := by kernel_rfl
theorem laidOut : laidOutB Try.prog = true := by kernel_rfl

theorem cells28 : Try.prog.cellsOf 28 = 4 := by kernel_rfl

theorem spot_of {W : World} {x : Addr} {cs' : List Value} (hc : W.cells? 0 (x.add (0 * Try.prog.cellsOf 28)) (Try.prog.cellsOf 28) = some cs') : x.spot = none := by
  rw [cells28, Nat.zero_mul] at hc
  obtain ⟨_, hlen, hat⟩ := World.cells?_some hc
  have h0 := hat 0 (by omega)
  rw [Addr.add_add] at h0
  match cs', hlen with
  | [c0, c1, c2, c3], _ =>
    obtain ⟨g, o, s⟩ := x
    rcases s with _ | s
    · rfl
    · exfalso
      unfold Addr.add World.cell? at h0
      simp at h0
      split at h0 <;> simp at h0

set_option maxRecDepth 100000 in
theorem act_of {H : Type} {enc : TypeId × Value → H} {W : World} {x : Addr} {i n : Nat} {cs' : List Value} {y : DataW H × List MemPlace} {sp : Nat → Bool} {hd : Bool} (hc : W.cells? 0 (x.add (i * Try.prog.cellsOf 28)) (Try.prog.cellsOf 28) = some cs') (hsp : x.spot = none)
    (ht : DataW.trod enc Try.prog W 0 sp hd n 28 cs' = some y) : ∃ q : Int × Int × Int × Int, ∃ g o, x = ⟨g, o, none⟩ ∧ g < W.heap.size ∧
      W.cell? ⟨g, o + i * 4, none⟩ = some (.int .i64 q.1) ∧ W.cell? ⟨g, o + i * 4 + 1, none⟩ = some (.int .i64 q.2.1) ∧ W.cell? ⟨g, o + i * 4 + 2, none⟩ = some (.int .i64 q.2.2.1) ∧ W.cell? ⟨g, o + i * 4 + 3, none⟩ = some (.int .i64 q.2.2.2) := by
  rw [cells28] at hc
  obtain ⟨_, hlen, hat⟩ := World.cells?_some hc
  obtain ⟨xs, n', _, hy, _, hxl, hg⟩ := DataW.trod_struct Try.underlying28 ht
  match cs', hlen with
  | [c0, c1, c2, c3], _ =>
    match xs, hxl with
    | [y0, y1, y2, y3], _ =>
      have g0 := hg 0 _ rfl; have g1 := hg 1 _ rfl; have g2 := hg 2 _ rfl; have g3 := hg 3 _ rfl
      have k3 : Try.prog.cellsOf 3 = 1 := by kernel_rfl
      simp [k3] at g0 g1 g2 g3
      obtain ⟨a0, e0, _, _⟩ := DataW.trod_int Try.underlying3 g0
      obtain ⟨a1, e1, _, _⟩ := DataW.trod_int Try.underlying3 g1
      obtain ⟨a2, e2, _, _⟩ := DataW.trod_int Try.underlying3 g2
      obtain ⟨a3, e3, _, _⟩ := DataW.trod_int Try.underlying3 g3
      simp at e0 e1 e2 e3
      subst e0 e1 e2 e3
      have h0 := hat 0 (by omega); have h1 := hat 1 (by omega); have h2 := hat 2 (by omega); have h3 := hat 3 (by omega)
      rw [Addr.add_add] at h0 h1 h2 h3
      obtain ⟨g, o, s⟩ := x
      rcases s with _ | s
      · have hadd : ∀ j, (⟨g, o, none⟩ : Addr).add j = ⟨g, o + j, none⟩ := fun j => by
          unfold Addr.add
          split
          · rename_i e; subst e; rfl
          · rfl
        rw [hadd] at h0 h1 h2 h3
        exact ⟨(a0, a1, a2, a3), g, o, rfl, cell_lt h0, h0, h1, h2, h3⟩
      · cases hsp

theorem acts_of {W : World} {x : Addr} {l : Nat} (h : ∀ i, i < l → ∃ q : Int × Int × Int × Int, ∃ g o, x = ⟨g, o, none⟩ ∧ g < W.heap.size ∧
      W.cell? ⟨g, o + i * 4, none⟩ = some (.int .i64 q.1) ∧ W.cell? ⟨g, o + i * 4 + 1, none⟩ = some (.int .i64 q.2.1) ∧ W.cell? ⟨g, o + i * 4 + 2, none⟩ = some (.int .i64 q.2.2.1) ∧ W.cell? ⟨g, o + i * 4 + 3, none⟩ = some (.int .i64 q.2.2.2)) : ∃ K T N S, ReadsA W (some x) l K T N S := by
  have h' : ∀ i, ∃ q : Int × Int × Int × Int, i < l → ∃ g o, x = ⟨g, o, none⟩ ∧ g < W.heap.size ∧
      W.cell? ⟨g, o + i * 4, none⟩ = some (.int .i64 q.1) ∧ W.cell? ⟨g, o + i * 4 + 1, none⟩ = some (.int .i64 q.2.1) ∧ W.cell? ⟨g, o + i * 4 + 2, none⟩ = some (.int .i64 q.2.2.1) ∧ W.cell? ⟨g, o + i * 4 + 3, none⟩ = some (.int .i64 q.2.2.2) := fun i => by
    by_cases hi : i < l
    · obtain ⟨q, hq⟩ := h i hi
      exact ⟨q, fun _ => hq⟩
    · exact ⟨(0, 0, 0, 0), fun k => absurd k hi⟩
  refine ⟨fun i => (Classical.choose (h' i)).1, fun i => (Classical.choose (h' i)).2.1, fun i => (Classical.choose (h' i)).2.2.1, fun i => (Classical.choose (h' i)).2.2.2, fun i hi => ?_⟩
  obtain ⟨g, o, rfl, h1, h2⟩ := Classical.choose_spec (h' i) hi
  exact ⟨g, o, rfl, h1, h2⟩

theorem acts_law (x : Int) (_ : (Lit.int .i64 x).wf = true) (a : Option Addr) (n c : Nat) (hm : n ≤ maxLen) (w : World) (h : ∃ K T N S, ReadsA w a n K T N S) : Calls Try.prog 8 #[.int .i64 x, .slice a n c] w fun e w' => e = .returned (.bool true) ∧ Below w.heap.size w w' := by
  obtain ⟨K, T, N, S, h⟩ := h
  by_cases h1 : 60 < n
  · exact acts_long x a n c w h1 hm
  · by_cases h2 : 1 ≤ x ∧ x ≤ 1000000
    · exact acts_any x a n c K T N S w (by omega) h2 h
    · exact acts_bad x a n c w (by omega) h2

set_option maxRecDepth 100000 in
theorem lifted (os : Os) (started : os.Started) (H : Type) (enc : TypeId × Value → H) :
    ReturnsInHanded {} Try.checked os 8 .any (Rows.schedActsSpec.pre6 enc Try.prog Try.f8 Rows.schedActsRow.domain false) (Rows.schedActsSpec.post enc Try.prog Try.f8 false true false false) := by
  refine returnsInHanded_of_change (C := Try.checked) own started (by kernel_rfl) Try.func8
    (ChangeSpec.witness6 (enc := enc) (C := Try.checked) false ⟨#[], #[.int .i64 0, .slice none 0 0], []⟩ 8 (by kernel_rfl) (by kernel_rfl) (by kernel_rfl) (by kernel_rfl)) ?_
  intro W base args ds gs before hval0 hW hcnd _
  have hval : ∀ (j : Nat) t v, Try.f8.params[j]? = some t → args[j]? = some v → Value.okWide Try.prog W .any base t v := hval0
  have hW' := hW
  obtain ⟨p, q, hA0, hV, rfl, hfz, hnd⟩ := hW
  have hA : DataW.TrodAll enc Try.prog W 0 (fun _ => true) true Try.f8.params.toList args.toList ds p := hA0
  rw [Try.params8] at hA hval
  obtain ⟨v0, vs0, d0, ds0, p0, q0, hargs, rfl, rfl, h0, r0⟩ := trodAll_cons hA
  obtain ⟨v1, vs1, d1, ds1, p1, q1, rfl, rfl, rfl, h1, r1⟩ := trodAll_cons r0
  obtain ⟨rfl, rfl, rfl⟩ := trodAll_nil r1
  obtain rfl : args = #[v0, v1] := by cases args; simp_all
  obtain ⟨rfl, rfl⟩ := trodVars_none hV
  have k0 := h0
  have lt0 : ∀ x ∈ p0, x.block < W.heap.size := by obtain ⟨m, hm⟩ := k0; exact DataW.trod_lt m _ _ _ hm
  obtain ⟨a0, rfl, rfl, rfl, w0⟩ := open_int Try.underlying3 (hval 0 3 v0 rfl rfl) h0
  have k1 := h1
  have lt1 : ∀ x ∈ p1, x.block < W.heap.size := by obtain ⟨m, hm⟩ := k1; exact DataW.trod_lt m _ _ _ hm
  obtain ⟨a1, len1, cap1, rfl⟩ := okWide_slice Try.underlying50 (hval 1 50 v1 rfl rfl)
  obtain ⟨w1, hm1⟩ : (∃ K T N S, ReadsA W a1 len1 K T N S) ∧ len1 ≤ maxLen := by
    obtain ⟨fuel, hf⟩ := h1
    rcases Go.Deep.open_slice Try.underlying50 hf with ⟨hcs, _⟩ | ⟨x, l, c, m, n, D, Pl, hcs, hb, hl, hm, hmm, hx, hi⟩
    · simp [Value.cells] at hcs
      obtain ⟨rfl, rfl, rfl⟩ := hcs
      exact ⟨⟨fun _ => 0, fun _ => 0, fun _ => 0, fun _ => 0, fun i hi => absurd hi (Nat.not_lt_zero _)⟩, Nat.zero_le _⟩
    · simp [Value.cells] at hcs
      obtain ⟨rfl, rfl, rfl⟩ := hcs
      simp at hmm
      subst hmm
      refine ⟨acts_of fun i hi' => ?_, Nat.le_trans hl hm⟩
      obtain ⟨cs0, hc0, _⟩ := hi 0 (by omega)
      obtain ⟨cs', hc, ht⟩ := hi i (by omega)
      exact act_of hc (spot_of hc0) ht
  clear hA0 hval0
  refine (acts_law a0 w0 a1 len1 cap1 hm1 W w1).mono fun e W' ⟨he, bel⟩ => ?_
  subst he
  exact ⟨_, rfl, _, _, _, [], _, [], hW', trodAll_mk1 (shut_bool Try.underlying4 _), (trodAll_cons_mk (Below.trod laidOut (by kernel_rfl) (of_decide_eq_true (by kernel_rfl)) k0 bel lt0) (trodAll_cons_mk (Below.trod laidOut (by kernel_rfl) (of_decide_eq_true (by kernel_rfl)) k1 bel lt1) trodAll_mk0)), rfl, bel.frame _, fun h => by cases h⟩

theorem over : Rows.schedActsRow.holds Try.pinned (OpenSpec.ofChange Rows.schedActsSpec) :=
  OpenClaim.holds_of_wide 8 Try.f8 rfl rfl rfl rfl rfl rfl rfl ⟨rfl, rfl, rfl, rfl, rfl⟩ rfl rfl rfl rfl rfl (by kernel_rfl) Try.func8 (by kernel_rfl)
    (of_decide_eq_true (by kernel_rfl)) (by unfold Func.isWrapper; first | (rw [if_pos (by decide +kernel)]; kernel_rfl) | (rw [if_neg (by decide +kernel)]; exact ⟨rfl, rfl⟩))
    (fun os started H enc _ => lifted os started H enc)

theorem proved : Rows.SchedActsSaid := over
#print axioms proved
end Go.Proofs.Ytjpkglgbcflbnaa.schedActs
