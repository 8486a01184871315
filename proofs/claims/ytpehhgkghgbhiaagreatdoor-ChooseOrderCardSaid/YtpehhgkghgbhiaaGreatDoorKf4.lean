/- Walks: the program's limbs: Digits. -/
import Derived.Test.YtpehhgkghgbhiaaGreatDoorKf3
import Derived.Lib.JoinLaws
namespace Go.Proofs.YtpehhgkghgbhiaaGreatDoor
open Go.RowKit Go.Shelf
set_option linter.unusedVariables false

theorem last_limb {a n : Nat} (hn : (limbs a).length = n + 1) : ∃ x, (limbs a)[n]? = some x ∧ x < 1000000000 ∧ 0 < x ∧ Lib.nDigits a = 9 * n + Lib.nDigits x ∧ val ((limbs a).drop n) = x := by
  have hne : limbs a ≠ [] := fun e => by simp [e] at hn
  obtain ⟨x, hx⟩ : ∃ x, (limbs a)[n]? = some x := ⟨_, List.getElem?_eq_getElem (by omega)⟩
  have hl : (limbs a).getLast hne = x := by
    have h := List.getElem?_eq_some_iff.1 hx
    obtain ⟨h1, h2⟩ := h
    rw [List.getLast_eq_getElem hne, ← h2]
    congr 1
    omega
  have hx' : (limbs a).getLast? = some x := by rw [List.getLast?_eq_some_getLast hne, hl]
  have hp := limbs_last a x hx'
  refine ⟨x, hx, (sm_limbs a).get hx, by omega, ?_, ?_⟩
  · have := nDigits_limbs (sm_limbs a) hne (limbs_last a)
    rw [val_limbs, hl, hn] at this
    simpa using this
  · rw [List.drop_eq_getElem_cons (by omega), List.drop_of_length_le (by omega)]
    have h := List.getElem?_eq_some_iff.1 hx
    obtain ⟨h1, h2⟩ := h
    rw [h2]
    simp [val]

set_option maxRecDepth 100000 in
set_option maxHeartbeats 4000000 in
theorem l_Digits (w : World) (v : Value) (a : Nat) (ha : IsN .u64 w v a) (hL : Lay w) (hla : (limbs a).length ≤ 1000000) :
    Calls Tryz.prog 141 #[v] w fun e w' => e = .returned (.int .i64 (Lib.nDigits a : Nat)) ∧ Below w.heap.size w w' := by
  obtain ⟨a1, c1, rfl, h1, h2, h3⟩ := ha.openI
  have H3 := hid h3; clear h3 ha
  by_cases h0 : (limbs a).length = 0
  · rw [h0]
    have ea : a = 0 := limbs_nil.1 (List.eq_nil_of_length_eq_zero h0)
    go_enter Tryz.func141, Tryz.ntmps141
    go_wp2_with fail
    go_ret
    refine ⟨?_, Below.refl _ _⟩
    rw [ea, show Lib.nDigits 0 = 1 by rw [Lib.nDigits_small (by omega)]]
    rfl
  · obtain ⟨n, ea⟩ : ∃ n, (limbs a).length = n + 1 := ⟨(limbs a).length - 1, by omega⟩
    obtain ⟨x, hx, hx1, hx2, hd, -⟩ := last_limb ea
    obtain ⟨g, o, rfl, hg, hc⟩ := H3.out n x hx
    rw [ea] at h1 hla ⊢
    have hw1 : IntKind.i64.wrap (((n + 1 : Nat) : Int) - 1) = (n : Int) := by rw [IntWalk.i64_in _ ⟨by omega, by omega⟩]; omega
    have hw2 : IntKind.i64.wrap (9 * (n : Int)) = 9 * (n : Int) := IntWalk.i64_in _ ⟨by omega, by omega⟩
    have hdl : Lib.nDigits x ≤ 9 := nDigits_le (by omega) (by omega)
    have hw3 : IntKind.i64.wrap (9 * (n : Int) + ((Lib.nDigits x : Nat) : Int)) = ((Lib.nDigits a : Nat) : Int) := by rw [IntWalk.i64_in _ ⟨by omega, by omega⟩]; omega
    have hlen : (Lib.decDigits x).length = Lib.nDigits x := Lib.decDigits_length x
    clear hd hdl
    go_enter Tryz.func141, Tryz.ntmps141
    go_wp2_with (first
      | (go_at_call 170; refine (l_fmt _ x (by omega) hL).mono ?_; rintro e w' ⟨rfl, hb⟩)
      | fail)
    go_ret
    exact ⟨rfl, hb⟩
#print axioms l_Digits
end Go.Proofs.YtpehhgkghgbhiaaGreatDoor

/- Walks: the program's limbs: String. -/
namespace Go.Proofs.YtpehhgkghgbhiaaGreatDoor
open Go.RowKit Go.Shelf Go.Lib
set_option linter.unusedVariables false
attribute [local go_sem] Oper.semAt_some

theorem bat_below {T e : TypeId} {B b : Nat} {p : Value} {bs : List Value} {W W' : World} (h : BuilderAtF T e B b p bs W) (hb : Below W.heap.size W W') : BuilderAtF T e B b p bs W' := by
  have hlt := h.lt
  obtain ⟨hB, v, hv, hown, hne⟩ := h
  exact ⟨hB, v, (hb.block b hlt).trans hv, hown.kept (row := none) ⟨hb.os, hb.tape, hb.output, hb.size, fun k hk _ => hb.block k hk⟩ (Classical.em _), hne⟩
theorem isb_below {T e : TypeId} {B b : Nat} {bs : List Value} {W W' : World} (h : IsBuilderF T e B b bs W) (hb : Below W.heap.size W W') : IsBuilderF T e B b bs W' :=
  h.elim (fun x => .inl (bat_below x hb)) (fun x => .inr (bat_below x hb))

theorem bat_kept {T e : TypeId} {B b : Nat} {p : Value} {bs : List Value} {W W' : World} {row : Option Nat} (h : BuilderAtF T e B b p bs W) (hg : W.grownBy W' row) (hr : ∀ r, row = some r → ∃ o : Obj, W.heap[r]? = some o ∧ o.isCells = false) : BuilderAtF T e B b p bs W' := by
  have hne2 : ∀ k cs t f, W.heap[k]? = some (.cells cs t f) → some k ≠ row := fun k cs t f hk ek => by
    obtain ⟨o, ho, hc⟩ := hr k ek.symm
    rw [hk] at ho
    cases ho
    cases hc
  have hlt := h.lt
  obtain ⟨hB, v, hv, hown, hne⟩ := h
  refine ⟨hB, v, (hg.block b hlt (hne2 _ _ _ _ hv)).trans hv, hown.kept (row := row) hg ?_, hne⟩
  rcases hown.2 with ⟨rfl, _⟩ | ⟨g, cap, cur, fz, rfl, _, hgg, _⟩
  · left; rfl
  · right
    intro e'
    exact hne2 g _ _ _ hgg e'

theorem _root_.Go.Lib.BuilderAtF.heap {T e : TypeId} {B b : Nat} {p : Value} {bs : List Value} {W : World} (h : BuilderAtF T e B b p bs W) : ∃ cs, W.heap[b]? = some (.cells cs T (0, 0)) := by
  obtain ⟨_, v, hv, _⟩ := h
  exact ⟨_, hv⟩

theorem keeps_of_others {e : TypeId} {b B : Nat} {T : TypeId} {cs : Array Value} {f : Nat × Nat} {W W' : World} (h : OthersKept e (some b) W W') (hs : W.heap.size ≤ W'.heap.size) (hb : W.heap[b]? = some (.cells cs T f)) : KeepsFrom B W W' :=
  ⟨hs, fun k o _ hk ho => h k o hk (fun ek => by cases ek; rw [hb] at hk; cases hk; cases ho) (fun c fz eo => by rw [eo] at ho; cases ho)⟩

theorem bytes_zeros (l : List UInt8) (k : Nat) : Go.Lib.byteCells l ++ strCells ⟨Array.replicate k 48⟩ = Go.Lib.byteCells (l ++ List.replicate k 48) := by simp [Go.Lib.byteCells, strCells]
theorem bytes_app (l m : List UInt8) : Go.Lib.byteCells l ++ strCells ⟨m.toArray⟩ = Go.Lib.byteCells (l ++ m) := by simp [Go.Lib.byteCells, strCells]

theorem zeros_from (k : Nat) (h1 : 1 ≤ k) (h : k ≤ 9) (W : World) : (Instr.slice 9 (.string ⟨#[48, 48, 48, 48, 48, 48, 48, 48, 48]⟩) (some (.int .i64 (k : Int))) none none).run Tryz.prog W = .ok (.string ⟨(List.replicate (9 - k) 48).toArray⟩) W := by
  rw [run_slice_string_l W 9 _ Tryz.underlying9 .i64 (k : Int) (by omega) (by simp [ByteArray.size]; omega)]
  have hk : k = 1 ∨ k = 2 ∨ k = 3 ∨ k = 4 ∨ k = 5 ∨ k = 6 ∨ k = 7 ∨ k = 8 ∨ k = 9 := by omega
  rcases hk with rfl | rfl | rfl | rfl | rfl | rfl | rfl | rfl | rfl <;> rfl

theorem zeros_from' (k : Nat) (h1 : 1 ≤ k) (h : k ≤ 9) (W : World) : (Instr.sliceAt 9 (.string ⟨#[48, 48, 48, 48, 48, 48, 48, 48, 48]⟩) (some (.int .i64 (k : Int))) none none).run Tryz.prog W = .ok (.string ⟨(List.replicate (9 - k) 48).toArray⟩) W := by
  rw [run_sliceAt_string W 9 _ _ _ _ Tryz.underlying9]
  exact zeros_from k h1 h W

theorem step_below {B n0 bs : Nat} {W W' : World} (h : Below W.heap.size W W') (hb : bs < W.heap.size) (hn : n0 ≤ W.heap.size) : KpB n0 bs W W' ∧ KeepsFrom B W W' :=
  ⟨⟨h.mono hn, h.block bs hb⟩, h.size, fun k o _ hk _ => (h.block k (Array.getElem?_eq_some_iff.1 hk).1).trans hk⟩

theorem step_write {e T T' : TypeId} {B n0 bs b : Nat} {cs cs' : Array Value} {W W' : World} {f : Nat × Nat} (h : OthersKept e (some b) W W') (hB : Below n0 W W') (hb : W.heap[b]? = some (.cells cs T f)) (hx : Blk W bs cs' T') (hne : bs ≠ b) (hT : T' ≠ e) : KpB n0 bs W W' ∧ KeepsFrom B W W' :=
  ⟨⟨hB, (h bs _ hx (fun ek => hne (by cases ek; rfl)) (fun c fz ec => hT (by cases ec; rfl))).trans (Eq.symm hx)⟩, keeps_of_others h hB.size hb⟩

set_option maxRecDepth 100000 in
set_option maxHeartbeats 4000000 in
theorem l_String (w : World) (v : Value) (a : Nat) (ha : IsN .u64 w v a) (hL : Lay w) (hla : (limbs a).length ≤ 1000000) :
    Calls Tryz.prog 142 #[v] w fun e w' => e = .returned (.string ⟨(Lib.decDigits a).toArray⟩) ∧ Below w.heap.size w w' := by
  obtain ⟨a1, c1, rfl, h1, h2, h3⟩ := ha.openI
  have H3 := hid h3; clear h3 ha
  by_cases h0 : (limbs a).length = 0
  · rw [h0]
    have ea : a = 0 := limbs_nil.1 (List.eq_nil_of_length_eq_zero h0)
    refine (callsIn_wide (n := 9)).1 ?_
    refine callsIn_of_wp_marks Tryz.func142 rfl trivial ?_ rfl
    simp only [Tryz.ntmps142, List.size_toArray, List.length_cons, List.length_nil, Nat.reduceAdd, Nat.reduceSub, Array.replicate_succ, Array.replicate_zero, List.push_toArray, List.append_toArray, List.nil_append, List.cons_append]
    gi_wp2
    refine ⟨.string ⟨#[48]⟩, by simp [results, Tryz.results142, go_sem], ?_, Below.refl _ _⟩
    rw [ea, dec_zero]
  · obtain ⟨n, ea⟩ : ∃ n, (limbs a).length = n + 1 := ⟨(limbs a).length - 1, by omega⟩
    obtain ⟨x, hx, hx1, hx2, hd, hv⟩ := last_limb ea
    obtain ⟨g, o, rfl, hg, hc⟩ := H3.out n x hx
    rw [ea] at h1 hla ⊢
    have hw1 : IntKind.i64.wrap (((n + 1 : Nat) : Int) - 1) = (n : Int) := by rw [IntWalk.i64_in _ ⟨by omega, by omega⟩]; omega
    have HD := hid hd
    have HV := hid hv
    have HL := hid hL
    clear hd hv hL
    refine (callsIn_wide (n := 9)).1 ?_
    refine callsIn_of_wp_marks Tryz.func142 rfl trivial ?_ rfl
    simp only [Tryz.ntmps142, List.size_toArray, List.length_cons, List.length_nil, Nat.reduceAdd, Nat.reduceSub, Array.replicate_succ, Array.replicate_zero, List.push_toArray, List.append_toArray, List.nil_append, List.cons_append]
    gi_wp2_with (first
      | (refine ⟨trivial, ?_⟩; gi_at_call 170
         refine (callsIn_wide.2 (l_fmt _ x (by omega) (HL.out.call ((Below.refl _ _).alloc (Nat.le_refl _) _)))).mono ?_
         rintro e W2 ⟨rfl, hb2⟩
         have HI : Hid (IsBuilderF 191 5 w.heap.size w.heap.size [] W2) := isb_below (IsBuilderF.of (fresh_isBuilder 191 5 w)) hb2
         have HB2 : Hid (Below w.heap.size w W2) := bnext ((Below.refl _ _).alloc (Nat.le_refl _) _) hb2
         clear hb2)
      | (refine ⟨trivial, ?_⟩; gi_at_call 171
         refine (callsIn_wide.2 (Tryz.builder_WriteString w.heap.size w.heap.size [] _ _ HI.out (by simp only [List.length_nil, ByteArray.size, List.size_toArray, Lib.decDigits_length]; have := nDigits_le (n := x) (k := 9) (by omega) (by omega); omega) HB2.out.size)).mono ?_
         rintro e W3 ⟨rfl, hi3, hb3, -⟩
         have HI3 := hid hi3
         have HB3 : Hid (Below w.heap.size w W3) := HB2.out.trans hb3
         clear hi3 hb3)
      | (refine ⟨trivial, ?_⟩; gi_at_call 164; refine (callsIn_wide.2 (back_call _ _ _ _)).mono ?_; rintro e w' ⟨rfl, rfl⟩)
      | fail)
    obtain ⟨W0, hW0⟩ : ∃ W0, W3.alloc (Obj.cells #[Value.slice (some { block := g, off := o }) n c1] 120) = W0 := ⟨_, rfl⟩
    have y1 : Blk W0 W3.heap.size #[.slice (some ⟨g, o, none⟩) n c1] 120 := by rw [← hW0]; exact Blk.new _ _ _
    have i0 : BuilderAtF 191 5 w.heap.size w.heap.size (.pointer (some ⟨w.heap.size, 0, none⟩)) (Go.Lib.byteCells (Lib.decDigits x)) W0 := by
      rw [← hW0]
      have := BuilderAtF.alloc HI3.out (Obj.cells #[Value.slice (some { block := g, off := o }) n c1] 120)
      simpa [strCells, Go.Lib.byteCells] using this
    have B0 : Below w.heap.size w W0 := by rw [← hW0]; exact HB3.out.alloc HB3.out.size _
    have z0 : W0.heap.size = W3.heap.size + 1 := by rw [← hW0]; simp
    have lt3 : w.heap.size < W3.heap.size := HI3.out.lt
    rw [hW0]
    have Y1 := hid y1; have I0 := hid i0; have HB0 := hid B0; have Z0 := hid z0; have L3 := hid lt3
    have HA := hid ea; have HG := hid hg; have HX := hid hx2
    clear y1 i0 B0 z0 lt3 hW0 HI HB2 HI3 HB3 hc hw1 hx
    have hread : ∀ W1 W2, Below W0.heap.size W0 W1 → KpB w.heap.size W3.heap.size W1 W2 → W2.cell? ⟨W3.heap.size, 0, none⟩ = some (.slice (some ⟨g, o, none⟩) n c1) ∧ ∀ i, i < n → ∃ g' o' z, (some ⟨g, o, none⟩ : Option Addr) = some ⟨g', o', none⟩ ∧ W2.cell? ⟨g', o' + i, none⟩ = some (.int .u64 z) ∧ ∃ y : Nat, z = y ∧ (limbs a)[i]? = some y := fun W1 W2 b1 b2 => by
      refine ⟨(b2.blk (Y1.out.call b1)).cell 0, fun i hi => ?_⟩
      obtain ⟨y, hy⟩ : ∃ y, (limbs a)[i]? = some y := ⟨_, List.getElem?_eq_getElem (by rw [HA.out]; omega)⟩
      obtain ⟨g', o', e, hg', hc⟩ := H3.out i y hy
      exact ⟨g', o', _, e, (((b2.1.cell (p := ⟨g', o' + i, none⟩) hg').trans (b1.cell (p := ⟨g', o' + i, none⟩) (by have := HB0.out.size; simp; omega))).trans (HB0.out.cell (p := ⟨g', o' + i, none⟩) hg')).trans hc, y, rfl, hy⟩
    refine range_ok (by omega) (gf := 201) (lb := #[.pointer (some ⟨W3.heap.size, 0, none⟩)]) rfl (enters_of Tryz.func201 (by kernel_rfl) rfl)
      (back_feeds (Kp := KpB w.heap.size W3.heap.size) (V := fun i z => ∃ y : Nat, z = y ∧ (limbs a)[i]? = some y) 8 (by omega) _ n c1 _ (by omega) (by omega) W0 (KpB.refl _ _) KpB.trans hread) KpB.trans (KpB.put (by have := HB0.out.size; omega) (by have := Z0.out; omega)) (Below.refl _ _) (fun _ => rfl)
      (fun pre W => (∃ l : List UInt8, BuilderAtF 191 5 w.heap.size w.heap.size (.pointer (some ⟨w.heap.size, 0, none⟩)) (Go.Lib.byteCells l) W ∧ l = Lib.decDigits (val ((limbs a).drop (n - pre.length))) ∧ l.length ≤ 9 * (pre.length + 1) ∧ 0 < val ((limbs a).drop (n - pre.length)) ∧ Blk W W3.heap.size #[.slice (some ⟨g, o, none⟩) n c1] 120) ∧ Below w.heap.size W0 W)
      (fun c pre W => False)
      (OwnFrom.and (fun s A B row hs hg hr => by
        obtain ⟨l, h1, h2, h3, h4, h5⟩ := hs
        exact ⟨l, bat_kept h1 hg (fun r e => (hr r e).2), h2, h3, h4, h5.kept hg (fun r e => (hr r e).2)⟩) (ownFrom_below (by have := HB0.out.size; omega) (by have := HB0.out.size; omega)))
      (fun c s A B row hs hg hr => hs)
      ⟨⟨_, I0.out, by simp [HV.out], by simp only [Lib.decDigits_length, List.length_nil]; have := nDigits_le (n := x) (k := 9) (by omega) (by omega); omega, by simp only [List.length_nil, Nat.sub_zero, HV.out]; exact hx2, Y1.out⟩, Below.refl _ _⟩ ?act ?assign ?body ?done ?stop
    case assign =>
      intro l x W K hK
      gi_wp2
      exact hK
    case body =>
      rintro l pre ⟨j, z⟩ W ⟨hj, y, ez, hy⟩ ⟨⟨ds, hA, hds, hlen, hpos, hbx⟩, hB⟩
      dsimp only at hj ez hy
      subst ez
      have hyl : y < 1000000000 := (sm_limbs a).get hy
      have hk1 : 1 ≤ Lib.nDigits y := Lib.nDigits_pos y
      have hk9 : Lib.nDigits y ≤ 9 := nDigits_le (by omega) (by omega)
      have hlen2 : (Lib.decDigits y).length = Lib.nDigits y := Lib.decDigits_length y
      have hz := zeros_from (Lib.nDigits y) hk1 hk9
      have hz' := zeros_from' (Lib.nDigits y) hk1 hk9
      have e1 : n - pre.length = j + 1 := by omega
      rw [e1] at hds hpos
      have HW : Hid (Below w.heap.size w W) := HB0.out.trans hB
      have HAA := hid hA; have HBX := hid hbx; have HBB := hid hB; have HDS := hid hds; have HLN := hid hlen; have HPO := hid hpos; have HJ := hid hj; have HY := hid hy
      have LW : Hid (W3.heap.size < W.heap.size) := Blk.lt hbx
      clear hA hbx hB hds hlen hpos hj hy e1
      gi_wp2_with (first
        | (refine ⟨trivial, ?_⟩; gi_at_call 170
           refine (callsIn_wide.2 (l_fmt _ y (by omega) (HL.out.call HW.out))).mono ?_
           rintro e Wa ⟨rfl, hba⟩
           have HIa : Hid (BuilderAtF 191 5 w.heap.size w.heap.size (.pointer (some ⟨w.heap.size, 0, none⟩)) (Go.Lib.byteCells ds) Wa) := bat_below HAA.out hba
           have HKa : Hid (KpB w.heap.size W3.heap.size W Wa ∧ KeepsFrom W0.heap.size W Wa) := step_below hba LW.out HW.out.size
           have HPL := HIa.out.heap
           obtain ⟨cs, hcs⟩ := HPL
           have HBa : Hid (w.heap.size ≤ Wa.heap.size) := Nat.le_trans HW.out.size hba.size
           have HCa := hid hcs
           clear hba hcs)
        | fail)
      refine ⟨trivial, ?_⟩
      refine (callsIn_wide.2 (Tryz.builder_WriteString w.heap.size w.heap.size (Go.Lib.byteCells ds) _ _ (.inr HIa.out) (by simp only [Go.Lib.byteCells, List.length_map, ByteArray.size, Array.size_replicate]; have := HLN.out; have := HJ.out; omega) HBa.out)).mono ?_
      rintro e Wb ⟨rfl, hib, hbb, hob⟩
      rw [bytes_zeros] at hib
      have hkb := step_write (B := W0.heap.size) hob hbb HCa.out (HKa.out.1.blk HBX.out) (by have := L3.out; omega) (by decide)
      have HKb : Hid (KpB w.heap.size W3.heap.size W Wb ∧ KeepsFrom W0.heap.size W Wb) := ⟨HKa.out.1.trans hkb.1, HKa.out.2.trans hkb.2⟩
      have HIb := hid hib
      obtain ⟨cs2, hcs2⟩ := hib.heap
      have HCb := hid hcs2
      have HBb : Hid (w.heap.size ≤ Wb.heap.size) := Nat.le_trans HBa.out hbb.size
      clear hib hbb hob hkb hcs2
      gi_wp2_with fail
      refine ⟨trivial, ?_⟩
      refine (callsIn_wide.2 (Tryz.builder_WriteString w.heap.size w.heap.size _ _ _ (.inr HIb.out) (by simp only [Go.Lib.byteCells, List.length_map, List.length_append, List.length_replicate, ByteArray.size, List.size_toArray]; have := HLN.out; have := HJ.out; omega) HBb.out)).mono ?_
      rintro e Wc ⟨rfl, hic, hbc, hoc⟩
      rw [bytes_app, List.append_assoc] at hic
      have hkc := step_write (B := W0.heap.size) hoc hbc HCb.out (HKb.out.1.blk HBX.out) (by have := L3.out; omega) (by decide)
      gi_wp2_with fail
      have hpre : n - (pre ++ [(j, (y : Int))]).length = j := by rw [List.length_append, List.length_singleton]; have := HJ.out; omega
      refine ⟨HKb.out.2.trans hkc.2, HKb.out.1.trans hkc.1, ⟨_, hic, ?_, ?_, ?_, (HKb.out.1.trans hkc.1).blk HBX.out⟩, HBB.out.trans ((HKb.out.1.trans hkc.1).1)⟩
      · rw [hpre, dec_limbs (sm_limbs a) HY.out HPO.out, ← HDS.out]; rfl
      · simp only [List.length_append, List.length_replicate, List.length_singleton]; have := HLN.out; omega
      · rw [hpre, val_drop HY.out]; have := HPO.out; omega
    case done =>
      rintro D xs W hD hx ⟨⟨ds, hA, hds, hlen, hpos, hbx⟩, hB⟩ hK
      rw [hx, Nat.sub_self, List.drop_zero, val_limbs] at hds
      have HAA := hid hA; have HBB := hid hB; have HDS := hid hds; have HK := hid hK; have HDD := hid hD
      have HLE : Hid (w.heap.size ≤ W.heap.size) := Nat.le_trans HB0.out.size hB.size
      clear hA hbx hB hds hlen hpos hx hK hD
      gi_wp2_with fail
      refine ⟨trivial, ?_⟩
      refine (callsIn_wide.2 (Tryz.builder_String w.heap.size w.heap.size ds _ (.inr HAA.out) HLE.out)).mono ?_
      rintro e Wz ⟨rfl, -, hbz, hoz⟩
      have hKz : Wz.heap[D]? = some (.deferred (some [])) := hoz D _ HK.out (fun ek => by cases ek; have := HB0.out.size; have := HDD.out; have := L3.out; have := Z0.out; omega) (fun c fz ec => by cases ec)
      have HKz := hid hKz
      have HBz : Hid (Below w.heap.size w Wz) := (HB0.out.trans HBB.out).trans hbz
      clear hoz hKz hbz
      gi_wp2_with fail
      refine marks_end HKz.out (v := .string ⟨ds.toArray⟩) (by simp [results, Tryz.results142, go_sem]) ⟨by rw [HDS.out], ?_⟩
      exact HBz.out.trans (belowK_b (w := w) (Nat.le_refl _) _ D _ _ (by have := HDD.out; have := L3.out; have := Z0.out; omega) HKz.out rfl rfl)
    case stop =>
      rintro D c pre W hD - h
      exact h.elim
end Go.Proofs.YtpehhgkghgbhiaaGreatDoor

/- Walks: nat.first, nat.result, nat.pair. -/
namespace Go.Proofs.YtpehhgkghgbhiaaGreatDoor
open Go.RowKit Go.Shelf
open Go.Lib (decDigits nDigits)
set_option linter.unusedVariables false

def firstE (x y : Int) : Int := if x = 0 then y else x

set_option maxRecDepth 100000 in
set_option maxHeartbeats 1000000 in
theorem n_first (w : World) (g : Nat) (x y : Int) (c0 : w.cell? ⟨g, 0, none⟩ = some (.int .i64 x)) (c1 : w.cell? ⟨g, 1, none⟩ = some (.int .i64 y)) :
    Calls Tryz.prog 129 #[.slice (some ⟨g, 0, none⟩) 2 2] w fun e w' => e = .returned (.int .i64 (firstE x y)) ∧ w = w' := by
  go_enter Tryz.func129, Tryz.ntmps129
  go_wp2_with fail
  go_loopw [8, 5] (fun i q wr => ∃ k : Nat, i = .int .i64 k ∧ k ≤ 2 ∧ Hid ((1 ≤ k → x = 0) ∧ (2 ≤ k → y = 0)) ∧ w = wr) (fun i _ _ => (2 - RowKit.intOf i).toNat)
  case atStart => exact ⟨0, rfl, by omega, ⟨fun h => by omega, fun h => by omega⟩, rfl⟩
  case round =>
    obtain ⟨k, rfl, hk, hz, rfl⟩ := hrel
    have hk3 : k = 0 ∨ k = 1 ∨ k = 2 := by omega
    rcases hk3 with rfl | rfl | rfl
    · by_cases hx : x = 0
      · subst hx
        go_wp2_with fail
        go_roundw
        case rel => exact ⟨1, rfl, by omega, ⟨fun _ => by simp, fun h => by omega⟩, by first | rfl | trivial⟩
        case measure => simp [RowKit.intOf]
      · have q0 : (x == 0) = false := by simpa using hx
        have q1 : (x != 0) = true := by simpa using hx
        go_wp2_with fail
        go_ret
        exact ⟨by rw [firstE, if_neg hx]; rfl, rfl⟩
    · have hx := hz.out.1 (Nat.le_refl _)
      subst hx
      by_cases hy : y = 0
      · subst hy
        go_wp2_with fail
        go_roundw
        case rel => exact ⟨2, rfl, by omega, ⟨fun _ => by simp, fun _ => by simp⟩, by first | rfl | trivial⟩
        case measure => simp [RowKit.intOf]
      · have q0 : (y == 0) = false := by simpa using hy
        have q1 : (y != 0) = true := by simpa using hy
        go_wp2_with fail
        go_ret
        exact ⟨by rw [firstE, if_pos rfl]; rfl, rfl⟩
    · have hx := hz.out.1 (by omega)
      have hy := hz.out.2 (Nat.le_refl _)
      subst hx; subst hy
      go_wp2_with fail
      go_ret
      exact ⟨by rw [firstE, if_pos rfl]; rfl, rfl⟩

/-- The text of a result, and its error. -/
def resB (n : Nat) : ByteArray := if 4000 < nDigits n then ⟨#[]⟩ else numB n
theorem resS_eq (n : Nat) : resS n = .string (resB n) := by unfold resS resB; split <;> rfl

set_option maxRecDepth 100000 in
set_option maxHeartbeats 1000000 in
theorem n_result (w : World) (v : Value) (n : Nat) (h : IsN .u64 w v n) (hl : (limbs n).length ≤ 1000000) (hL : Lay w) :
    Calls Tryz.prog 100 #[v] w fun e w' => e = .returned (.tuple #[.string (resB n), .int .i64 (resE n)]) ∧ Below w.heap.size w w' := by
  obtain ⟨a, c, rfl, _⟩ := h.openI
  have H := hid h; have HL := hid hl; have HY := hid hL
  have hbd := nDigits_bound hl (by omega)
  obtain ⟨D, hD⟩ : ∃ D, nDigits n = D := ⟨_, rfl⟩
  have P := hid (l_Digits w _ n h hL hl)
  rw [hD] at P hbd
  by_cases hlong : 4000 < D
  · have e1 : resB n = ⟨#[]⟩ := if_pos (by omega)
    have e2 : resE n = 5 := resE_long (by omega)
    have q0 : decide ((4000 : Int) < (D : Int)) = true := by simp; omega
    rw [e1, e2]
    clear hlong h hl hL e1 e2 hD
    go_enter Tryz.func100, Tryz.ntmps100
    go_wp2_with (first
      | (go_at_call 141; refine P.out.mono ?_; rintro e w1 ⟨rfl, hb1⟩)
      | fail)
    go_ret2
    exact ⟨rfl, hb1⟩
  · have e1 : resB n = numB n := if_neg (by omega)
    have e2 : resE n = 0 := resE_ok (by omega)
    have q0 : decide ((4000 : Int) < (D : Int)) = false := by simp; omega
    rw [e1, e2]
    clear hlong h hl hL e1 e2 hD
    go_enter Tryz.func100, Tryz.ntmps100
    go_wp2_with (first
      | (go_at_call 141; refine P.out.mono ?_; rintro e w1 ⟨rfl, hb1⟩
         have y1 := hid hb1; clear hb1)
      | (go_at_call 142; refine (l_String _ _ n (H.out.call y1.out) (HY.out.call y1.out) HL.out).mono ?_; rintro e w2 ⟨rfl, hb2⟩
         have y2 := hid (bnext y1.out hb2); clear hb2)
      | fail)
    go_ret2
    exact ⟨rfl, y2.out⟩
end Go.Proofs.YtpehhgkghgbhiaaGreatDoor

/- Walks: the program's limbs: Add. -/
namespace Go.Proofs.YtpehhgkghgbhiaaGreatDoor
open Go.RowKit
set_option linter.unusedVariables false

theorem room_nat (n : Nat) (hn : n ≤ 3000000) (W : World) : (Instr.makeSlice 120 (.int .i64 0) (.int .i64 (n : Int))).run Tryz.prog W = .ok (.slice (some ⟨W.heap.size, 0, none⟩) 0 n) (W.alloc (.cells (madeCells #[.int .u64 0] n) 124)) :=
  run_make_room (P := Tryz.prog) 120 124 (.int .u64 0) 8 Tryz.underlying120 (by kernel_rfl) rfl .i64 .i64 n (by omega) (by omega) W

theorem owns_room (w : World) (n : Nat) (hn : n ≤ 3000000) : (w.alloc (.cells (madeCells #[.int .u64 0] n) 124)).ownsRow w.heap.size 124 1 (.slice (some ⟨w.heap.size, 0, none⟩) 0 n) 0 [] :=
  World.ownsRow_made w _ n (Nat.le_refl _) (by unfold maxLen; omega) (by have := size_madeCells #[Value.int .u64 0] n; simpa using this)

set_option maxHeartbeats 4000000 in
theorem l_Add_ge (w : World) (v u : Value) (a b : Nat) (ha : IsN .u64 w v a) (hb : IsN .u64 w u b) (hle : (limbs b).length ≤ (limbs a).length) (hla : (limbs a).length ≤ 1000000) (hlb : (limbs b).length ≤ 1000000) :
    Calls Tryz.prog 167 #[v, u] w fun e w' => RetN .u64 (a + b) e w' ∧ Below w.heap.size w w' := by
  obtain ⟨i0, hi, hz0, hz1, hz2⟩ := info_parts info_u64
  obtain ⟨a1, c1, rfl, h1, h2, h3⟩ := ha.openI
  obtain ⟨a2, c2, rfl, k1, k2, k3⟩ := hb.openI
  have H3 := hid h3; have K3 := hid k3; clear h3 k3 ha hb
  obtain ⟨n, ea⟩ : ∃ n, (limbs a).length = n := ⟨_, rfl⟩
  obtain ⟨m, eb⟩ : ∃ m, (limbs b).length = m := ⟨_, rfl⟩
  rw [ea] at h1 hla hle ⊢
  rw [eb] at k1 hlb hle ⊢
  have HA := hid ea; have HB := hid eb
  clear ea eb
  have q0 : decide (n < m) = false := by simp; omega
  have hmk : ∀ W : World, (Instr.makeSlice 120 (.int .i64 0) (.int .i64 ((n : Int) + 1))).run Tryz.prog W = .ok (.slice (some ⟨W.heap.size, 0, none⟩) 0 (n + 1)) (W.alloc (.cells (madeCells #[.int .u64 0] (n + 1)) 124)) := fun W => by
    have := room_nat (n + 1) (by omega) W
    rwa [Int.natCast_add] at this
  have hmn : m ≤ n := by omega
  clear hle
  go_enter Tryz.func167, Tryz.ntmps167
  go_wp2_with fail
  clear hmk q0
  go_loopw [5, 6, 7, 8, 22] (fun o cc jj nn ii wr => ∃ (s : List Nat) (c : Nat), ii = .int .i64 s.length ∧ cc = .int .u64 c ∧ c ≤ 1 ∧ s.length ≤ n ∧ Hid (PlusI a b s c) ∧ Hid (wr.ownsRow w.heap.size 124 1 o s.length (ints .u64 s)) ∧ Hid (Below w.heap.size w wr))
    (fun _ _ _ _ ii _ => n - (intOf ii).toNat)
  case atStart => exact ⟨[], 0, rfl, rfl, by omega, by simp, PlusI.start a b, owns_room w (n + 1) (by omega), (Below.refl _ _).alloc (Nat.le_refl _) _⟩
  case round =>
    obtain ⟨s, c, rfl, rfl, hc1, hs1, hP, hO, hB⟩ := hrel
    obtain ⟨ao, co, rfl⟩ := owns_ex hO.out
    by_cases hA : s.length < n
    · obtain ⟨x, hx⟩ : ∃ x, (limbs a)[s.length]? = some x := ⟨_, List.getElem?_eq_getElem (by rw [HA.out]; exact hA)⟩
      obtain ⟨g, og, rfl, hg, hc⟩ := H3.out _ x hx
      have hc' := (hB.out.cell (p := ⟨g, og + s.length, none⟩) hg).trans hc
      have hxl := (sm_limbs a).get hx
      have HX := hid hx; clear hx hc
      have HN := hid (hP.out.next (by rw [HA.out]; exact .inl hA))
      by_cases hB' : s.length < m
      · obtain ⟨y, hy⟩ : ∃ y, (limbs b)[s.length]? = some y := ⟨_, List.getElem?_eq_getElem (by rw [HB.out]; exact hB')⟩
        obtain ⟨g', og', rfl, hg', hd⟩ := K3.out _ y hy
        have hd' := (hB.out.cell (p := ⟨g', og' + s.length, none⟩) hg').trans hd
        have hyl := (sm_limbs b).get hy
        rw [getD_of HX.out, getD_of hy] at HN
        clear hy hd
        go_wp2_with (at_builtin; refine wpList_append_own _ rfl _ _ 120 rfl w.heap.size 124 i0 (.int .u64 0) 1 8 Tryz.underlying120 hi hz0 hz1 hz2 rfl (by decide) _ s.length _ rfl (hO.out.alloc _) ⟨wr.heap.size, 0, none⟩ 1 1 [.int .u64 (((x : Int) + (c : Int) + (y : Int)) % 1000000000)] rfl rfl (cell_one_new wr (.int .u64 (((x : Int) + (c : Int) + (y : Int)) % 1000000000)) 124) (by simp [Value.oneCell']) (by unfold maxLen; omega) (by omega) (by have := hB.out.size; simp; omega) ?_; intro v' w3 hown3 hgrow3 _; have HO3 := hid hown3; have HG3 := hid hgrow3; clear hown3 hgrow3)
        have hz : (((x : Int) + (c : Int) + (y : Int)) % 1000000000) = (((x + c + y) % 1000000000 : Nat) : Int) := by omega
        rw [hz] at HO3
        obtain ⟨n1, n2⟩ := own_next hO.out hB.out HO3.out HG3.out
        have N1 := hid n1; have N2 := hid n2; clear n1 n2 hz HO3 HG3
        obtain ⟨a3, k3, rfl⟩ := owns_ex N1.out
        go_wp2_with fail
        go_roundw
        case rel => exact ⟨s ++ [(x + c + y) % 1000000000], (x + c + y) / 1000000000, by simp, by go_num, HN.out.c1, by simp <;> omega, HN, N1, N2⟩
        case measure => simp [intOf] <;> omega
      · rw [getD_of HX.out, getD_none (by rw [HB.out]; omega)] at HN
        go_wp2_with (at_builtin; refine wpList_append_own _ rfl _ _ 120 rfl w.heap.size 124 i0 (.int .u64 0) 1 8 Tryz.underlying120 hi hz0 hz1 hz2 rfl (by decide) _ s.length _ rfl (hO.out.alloc _) ⟨wr.heap.size, 0, none⟩ 1 1 [.int .u64 (((x : Int) + (c : Int)) % 1000000000)] rfl rfl (cell_one_new wr (.int .u64 (((x : Int) + (c : Int)) % 1000000000)) 124) (by simp [Value.oneCell']) (by unfold maxLen; omega) (by omega) (by have := hB.out.size; simp; omega) ?_; intro v' w3 hown3 hgrow3 _; have HO3 := hid hown3; have HG3 := hid hgrow3; clear hown3 hgrow3)
        have hz : (((x : Int) + (c : Int)) % 1000000000) = (((x + c + 0) % 1000000000 : Nat) : Int) := by omega
        rw [hz] at HO3
        obtain ⟨n1, n2⟩ := own_next hO.out hB.out HO3.out HG3.out
        have N1 := hid n1; have N2 := hid n2; clear n1 n2 hz HO3 HG3
        obtain ⟨a3, k3, rfl⟩ := owns_ex N1.out
        go_wp2_with fail
        go_roundw
        case rel => exact ⟨s ++ [(x + c + 0) % 1000000000], (x + c + 0) / 1000000000, by simp, by go_num, HN.out.c1, by simp <;> omega, HN, N1, N2⟩
        case measure => simp [intOf] <;> omega
    · obtain rfl : s.length = n := by omega
      rcases (show c = 0 ∨ c = 1 by omega) with rfl | rfl
      · have hs := hid (hP.out.done (by rw [HA.out]; exact hA) (by rw [HB.out]; omega) rfl)
        go_wp2_with fail
        go_ret
        exact ⟨⟨_, rfl, owns_isN hO.out (by rw [hs.out])⟩, hB.out⟩
      · have HN := hid (hP.out.next (by exact .inr (.inr (by omega))))
        rw [getD_none (by rw [HA.out]; omega), getD_none (by rw [HB.out]; omega)] at HN
        have HD := hid (HN.out.done (by simp [HA.out]) (by simp [HB.out]; omega) rfl)
        go_wp2_with (at_builtin; refine wpList_append_own _ rfl _ _ 120 rfl w.heap.size 124 i0 (.int .u64 0) 1 8 Tryz.underlying120 hi hz0 hz1 hz2 rfl (by decide) _ s.length _ rfl (hO.out.alloc _) ⟨wr.heap.size, 0, none⟩ 1 1 [.int .u64 (1)] rfl rfl (cell_one_new wr (.int .u64 (1)) 124) (by simp [Value.oneCell']) (by unfold maxLen; omega) (by omega) (by have := hB.out.size; simp; omega) ?_; intro v' w3 hown3 hgrow3 _; have HO3 := hid hown3; have HG3 := hid hgrow3; clear hown3 hgrow3)
        have hz : (1) = (((0 + 1 + 0) % 1000000000 : Nat) : Int) := by omega
        rw [hz] at HO3
        obtain ⟨n1, n2⟩ := own_next hO.out hB.out HO3.out HG3.out
        have N1 := hid n1; have N2 := hid n2; clear n1 n2 hz HO3 HG3
        obtain ⟨a3, k3, rfl⟩ := owns_ex N1.out
        go_wp2_with fail
        go_ret
        exact ⟨⟨_, rfl, owns_isN N1.out (by rw [HD.out])⟩, N2.out⟩

set_option maxHeartbeats 4000000 in
theorem l_Add_lt (w : World) (v u : Value) (a b : Nat) (ha : IsN .u64 w v a) (hb : IsN .u64 w u b) (hle : (limbs a).length < (limbs b).length) (hla : (limbs a).length ≤ 1000000) (hlb : (limbs b).length ≤ 1000000) :
    Calls Tryz.prog 167 #[v, u] w fun e w' => RetN .u64 (a + b) e w' ∧ Below w.heap.size w w' := by
  obtain ⟨i0, hi, hz0, hz1, hz2⟩ := info_parts info_u64
  obtain ⟨a1, c1, rfl, h1, h2, h3⟩ := hb.openI
  obtain ⟨a2, c2, rfl, k1, k2, k3⟩ := ha.openI
  have H3 := hid h3; have K3 := hid k3; clear h3 k3 ha hb
  obtain ⟨n, ea⟩ : ∃ n, (limbs b).length = n := ⟨_, rfl⟩
  obtain ⟨m, eb⟩ : ∃ m, (limbs a).length = m := ⟨_, rfl⟩
  rw [ea] at h1 hlb hle ⊢
  rw [eb] at k1 hla hle ⊢
  have HA := hid ea; have HB := hid eb
  clear ea eb
  have q0 : decide (m < n) = true := by simp; omega
  have hmk : ∀ W : World, (Instr.makeSlice 120 (.int .i64 0) (.int .i64 ((n : Int) + 1))).run Tryz.prog W = .ok (.slice (some ⟨W.heap.size, 0, none⟩) 0 (n + 1)) (W.alloc (.cells (madeCells #[.int .u64 0] (n + 1)) 124)) := fun W => by
    have := room_nat (n + 1) (by omega) W
    rwa [Int.natCast_add] at this
  have hmn : m ≤ n := by omega
  clear hle
  go_enter Tryz.func167, Tryz.ntmps167
  go_wp2_with fail
  clear hmk q0
  go_loopw [5, 6, 7, 8, 22] (fun o cc jj nn ii wr => ∃ (s : List Nat) (c : Nat), ii = .int .i64 s.length ∧ cc = .int .u64 c ∧ c ≤ 1 ∧ s.length ≤ n ∧ Hid (PlusI b a s c) ∧ Hid (wr.ownsRow w.heap.size 124 1 o s.length (ints .u64 s)) ∧ Hid (Below w.heap.size w wr))
    (fun _ _ _ _ ii _ => n - (intOf ii).toNat)
  case atStart => exact ⟨[], 0, rfl, rfl, by omega, by simp, PlusI.start b a, owns_room w (n + 1) (by omega), (Below.refl _ _).alloc (Nat.le_refl _) _⟩
  case round =>
    obtain ⟨s, c, rfl, rfl, hc1, hs1, hP, hO, hB⟩ := hrel
    obtain ⟨ao, co, rfl⟩ := owns_ex hO.out
    by_cases hA : s.length < n
    · obtain ⟨x, hx⟩ : ∃ x, (limbs b)[s.length]? = some x := ⟨_, List.getElem?_eq_getElem (by rw [HA.out]; exact hA)⟩
      obtain ⟨g, og, rfl, hg, hc⟩ := H3.out _ x hx
      have hc' := (hB.out.cell (p := ⟨g, og + s.length, none⟩) hg).trans hc
      have hxl := (sm_limbs b).get hx
      have HX := hid hx; clear hx hc
      have HN := hid (hP.out.next (by rw [HA.out]; exact .inl hA))
      by_cases hB' : s.length < m
      · obtain ⟨y, hy⟩ : ∃ y, (limbs a)[s.length]? = some y := ⟨_, List.getElem?_eq_getElem (by rw [HB.out]; exact hB')⟩
        obtain ⟨g', og', rfl, hg', hd⟩ := K3.out _ y hy
        have hd' := (hB.out.cell (p := ⟨g', og' + s.length, none⟩) hg').trans hd
        have hyl := (sm_limbs a).get hy
        rw [getD_of HX.out, getD_of hy] at HN
        clear hy hd
        go_wp2_with (at_builtin; refine wpList_append_own _ rfl _ _ 120 rfl w.heap.size 124 i0 (.int .u64 0) 1 8 Tryz.underlying120 hi hz0 hz1 hz2 rfl (by decide) _ s.length _ rfl (hO.out.alloc _) ⟨wr.heap.size, 0, none⟩ 1 1 [.int .u64 (((x : Int) + (c : Int) + (y : Int)) % 1000000000)] rfl rfl (cell_one_new wr (.int .u64 (((x : Int) + (c : Int) + (y : Int)) % 1000000000)) 124) (by simp [Value.oneCell']) (by unfold maxLen; omega) (by omega) (by have := hB.out.size; simp; omega) ?_; intro v' w3 hown3 hgrow3 _; have HO3 := hid hown3; have HG3 := hid hgrow3; clear hown3 hgrow3)
        have hz : (((x : Int) + (c : Int) + (y : Int)) % 1000000000) = (((x + c + y) % 1000000000 : Nat) : Int) := by omega
        rw [hz] at HO3
        obtain ⟨n1, n2⟩ := own_next hO.out hB.out HO3.out HG3.out
        have N1 := hid n1; have N2 := hid n2; clear n1 n2 hz HO3 HG3
        obtain ⟨a3, k3, rfl⟩ := owns_ex N1.out
        go_wp2_with fail
        go_roundw
        case rel => exact ⟨s ++ [(x + c + y) % 1000000000], (x + c + y) / 1000000000, by simp, by go_num, HN.out.c1, by simp <;> omega, HN, N1, N2⟩
        case measure => simp [intOf] <;> omega
      · rw [getD_of HX.out, getD_none (by rw [HB.out]; omega)] at HN
        go_wp2_with (at_builtin; refine wpList_append_own _ rfl _ _ 120 rfl w.heap.size 124 i0 (.int .u64 0) 1 8 Tryz.underlying120 hi hz0 hz1 hz2 rfl (by decide) _ s.length _ rfl (hO.out.alloc _) ⟨wr.heap.size, 0, none⟩ 1 1 [.int .u64 (((x : Int) + (c : Int)) % 1000000000)] rfl rfl (cell_one_new wr (.int .u64 (((x : Int) + (c : Int)) % 1000000000)) 124) (by simp [Value.oneCell']) (by unfold maxLen; omega) (by omega) (by have := hB.out.size; simp; omega) ?_; intro v' w3 hown3 hgrow3 _; have HO3 := hid hown3; have HG3 := hid hgrow3; clear hown3 hgrow3)
        have hz : (((x : Int) + (c : Int)) % 1000000000) = (((x + c + 0) % 1000000000 : Nat) : Int) := by omega
        rw [hz] at HO3
        obtain ⟨n1, n2⟩ := own_next hO.out hB.out HO3.out HG3.out
        have N1 := hid n1; have N2 := hid n2; clear n1 n2 hz HO3 HG3
        obtain ⟨a3, k3, rfl⟩ := owns_ex N1.out
        go_wp2_with fail
        go_roundw
        case rel => exact ⟨s ++ [(x + c + 0) % 1000000000], (x + c + 0) / 1000000000, by simp, by go_num, HN.out.c1, by simp <;> omega, HN, N1, N2⟩
        case measure => simp [intOf] <;> omega
    · obtain rfl : s.length = n := by omega
      rcases (show c = 0 ∨ c = 1 by omega) with rfl | rfl
      · have hs := hid (hP.out.done (by rw [HA.out]; exact hA) (by rw [HB.out]; omega) rfl)
        go_wp2_with fail
        go_ret
        exact ⟨⟨_, rfl, owns_isN hO.out (by rw [hs.out, Nat.add_comm])⟩, hB.out⟩
      · have HN := hid (hP.out.next (by exact .inr (.inr (by omega))))
        rw [getD_none (by rw [HA.out]; omega), getD_none (by rw [HB.out]; omega)] at HN
        have HD := hid (HN.out.done (by simp [HA.out]) (by simp [HB.out]; omega) rfl)
        go_wp2_with (at_builtin; refine wpList_append_own _ rfl _ _ 120 rfl w.heap.size 124 i0 (.int .u64 0) 1 8 Tryz.underlying120 hi hz0 hz1 hz2 rfl (by decide) _ s.length _ rfl (hO.out.alloc _) ⟨wr.heap.size, 0, none⟩ 1 1 [.int .u64 (1)] rfl rfl (cell_one_new wr (.int .u64 (1)) 124) (by simp [Value.oneCell']) (by unfold maxLen; omega) (by omega) (by have := hB.out.size; simp; omega) ?_; intro v' w3 hown3 hgrow3 _; have HO3 := hid hown3; have HG3 := hid hgrow3; clear hown3 hgrow3)
        have hz : (1) = (((0 + 1 + 0) % 1000000000 : Nat) : Int) := by omega
        rw [hz] at HO3
        obtain ⟨n1, n2⟩ := own_next hO.out hB.out HO3.out HG3.out
        have N1 := hid n1; have N2 := hid n2; clear n1 n2 hz HO3 HG3
        obtain ⟨a3, k3, rfl⟩ := owns_ex N1.out
        go_wp2_with fail
        go_ret
        exact ⟨⟨_, rfl, owns_isN N1.out (by rw [HD.out, Nat.add_comm])⟩, N2.out⟩

/-- A sum. -/
theorem l_Add (w : World) (v u : Value) (a b : Nat) (ha : IsN .u64 w v a) (hb : IsN .u64 w u b) (hla : (limbs a).length ≤ 1000000) (hlb : (limbs b).length ≤ 1000000) :
    Calls Tryz.prog 167 #[v, u] w fun e w' => RetN .u64 (a + b) e w' ∧ Below w.heap.size w w' := by
  by_cases h : (limbs b).length ≤ (limbs a).length
  · exact l_Add_ge w v u a b ha hb h hla hlb
  · exact l_Add_lt w v u a b ha hb (by omega) hla hlb
end Go.Proofs.YtpehhgkghgbhiaaGreatDoor

/- Walks: the program's limbs: Sub. -/
namespace Go.Proofs.YtpehhgkghgbhiaaGreatDoor
open Go.RowKit
set_option linter.unusedVariables false

/-- What the loop of the difference holds where it writes into an array: the limbs s have been written. -/
structure SubA (a b i c : Nat) (o : List Nat) : Prop where
  len : o.length = (limbs a).length
  inv : MinusI a b (o.take i) c

theorem SubA.start (a b : Nat) : SubA a b 0 0 (List.replicate (limbs a).length 0) := ⟨by simp, by rw [List.take_zero]; exact MinusI.start a b⟩

theorem SubA.next {a b i c z c' : Nat} {o : List Nat} (h : SubA a b i c o) (hi : i < (limbs a).length) (hz : (limbs a).getD i 0 + 1000000000 * c' = z + c + (limbs b).getD i 0) (h1 : z < 1000000000) (h2 : c' ≤ 1) : SubA a b (i + 1) c' (o.set i z) := by
  have hl : i < o.length := by rw [h.len]; exact hi
  have hti : (o.take i).length = i := List.length_take_of_le (by omega)
  refine ⟨by rw [List.length_set, h.len], ?_⟩
  have := h.inv.next (z := z) (c' := c') (by rw [hti]; exact hz) h1 h2
  rwa [show (o.set i z).take (i + 1) = o.take i ++ [z] from ?_]
  rw [List.take_succ_eq_append_getElem (by simpa using hl), List.take_set_of_le (Nat.le_refl _)]
  simp

theorem SubA.done {a b c : Nat} {o : List Nat} (h : SubA a b (limbs a).length c o) (hle : b ≤ a) : val o = a - b ∧ Sm o := by
  have ht : o.take (limbs a).length = o := List.take_of_length_le (by rw [h.len]; exact Nat.le_refl _)
  have hi := h.inv
  rw [ht] at hi
  exact ⟨hi.done h.len hle, hi.sm⟩

set_option maxRecDepth 100000 in
set_option maxHeartbeats 4000000 in
theorem l_Sub (w : World) (v u : Value) (a b : Nat) (ha : IsN .u64 w v a) (hb : IsN .u64 w u b) (hle : b ≤ a) (hla : (limbs a).length ≤ 1000000) :
    Calls Tryz.prog 192 #[v, u] w fun e w' => RetN .u64 (a - b) e w' ∧ Below w.heap.size w w' := by
  obtain ⟨a1, c1, rfl, h1, h2, h3⟩ := ha.openI
  obtain ⟨a2, c2, rfl, k1, k2, k3⟩ := hb.openI
  have H3 := hid h3; have K3 := hid k3; clear h3 k3 ha hb
  have hmn := limbs_length_mono hle
  obtain ⟨n, ea⟩ : ∃ n, (limbs a).length = n := ⟨_, rfl⟩
  obtain ⟨m, eb⟩ : ∃ m, (limbs b).length = m := ⟨_, rfl⟩
  rw [ea] at h1 hla hmn ⊢
  rw [eb] at k1 hmn ⊢
  have HA := hid ea; have HB := hid eb; have HL := hid hle
  clear ea eb hle
  have hmk := fun W => make_nat n (by omega) W
  go_enter Tryz.func192, Tryz.ntmps192
  go_wp2_with fail
  clear hmk
  go_loopw [6, 7, 8, 9, 15] (fun cc s7 s8 s9 ii wr => ∃ (i c : Nat) (o : List Nat), ii = .int .i64 i ∧ cc = .int .u64 c ∧ c ≤ 1 ∧ i ≤ n ∧ Hid (SubA a b i c o) ∧ Hid (Arr .u64 124 wr w.heap.size o) ∧ Hid (Below w.heap.size w wr))
    (fun _ _ _ _ ii _ => n - (intOf ii).toNat)
  case atStart => exact ⟨0, 0, _, rfl, rfl, by omega, by omega, SubA.start a b, by rw [HA.out]; exact Arr.made w .u64 124 n, (Below.refl _ _).alloc (Nat.le_refl _) _⟩
  case round =>
    obtain ⟨i, c, o, rfl, rfl, hc1, hin, hS, hO, hB⟩ := hrel
    have hol := hid (show o.length = n from by rw [hS.out.len, HA.out])
    by_cases hA : i < n
    · obtain ⟨x, hx⟩ : ∃ x, (limbs a)[i]? = some x := ⟨_, List.getElem?_eq_getElem (by rw [HA.out]; exact hA)⟩
      obtain ⟨g, og, rfl, hg, hc⟩ := H3.out _ x hx
      have hc' := (hB.out.cell (p := ⟨g, og + i, none⟩) hg).trans hc
      have hxl := (sm_limbs a).get hx
      have HX := hid hx; clear hx hc
      obtain ⟨z0, hz0⟩ : ∃ z, o[i]? = some z := ⟨_, List.getElem?_eq_getElem (by rw [hol.out]; exact hA)⟩
      have d3 := hO.out.cell hz0
      have d4 := hO.out.free i
      clear hz0
      by_cases hB' : i < m
      · obtain ⟨y, hy⟩ : ∃ y, (limbs b)[i]? = some y := ⟨_, List.getElem?_eq_getElem (by rw [HB.out]; exact hB')⟩
        obtain ⟨g', og', rfl, hg', hd⟩ := K3.out _ y hy
        have hd' := (hB.out.cell (p := ⟨g', og' + i, none⟩) hg').trans hd
        have hyl := (sm_limbs b).get hy
        have HY := hid hy; clear hy hd
        by_cases hneg : x < c + y
        · have q1 : decide ((x : Int) < (c : Int) + (y : Int)) = true := by simp; omega
          have HN := hid (hS.out.next (z := x + 1000000000 - (c + y)) (c' := 1) (by rw [HA.out]; exact hA) (by rw [getD_of HX.out, getD_of HY.out]; omega) (by omega) (by omega))
          go_wp2_with fail
          go_roundw
          case rel =>
            have hz : ((x : Int) + 1000000000 - ((c : Int) + y)) = ((x + 1000000000 - (c + y) : Nat) : Int) := by omega
            exact ⟨i + 1, 1, _, by go_num, rfl, by omega, by omega, HN, by rw [hz]; exact hO.out.set i _, below_set hB.out (Nat.le_refl _) _⟩
          case measure => simp [intOf] <;> omega
        · have q1 : decide ((x : Int) < (c : Int) + (y : Int)) = false := by simp; omega
          have HN := hid (hS.out.next (z := x - (c + y)) (c' := 0) (by rw [HA.out]; exact hA) (by rw [getD_of HX.out, getD_of HY.out]; omega) (by omega) (by omega))
          go_wp2_with fail
          go_roundw
          case rel =>
            have hz : ((x : Int) - ((c : Int) + y)) = ((x - (c + y) : Nat) : Int) := by omega
            exact ⟨i + 1, 0, _, by go_num, rfl, by omega, by omega, HN, by rw [hz]; exact hO.out.set i _, below_set hB.out (Nat.le_refl _) _⟩
          case measure => simp [intOf] <;> omega
      · by_cases hneg : x < c
        · have q1 : decide ((x : Int) < (c : Int)) = true := by simp; omega
          have HN := hid (hS.out.next (z := x + 1000000000 - c) (c' := 1) (by rw [HA.out]; exact hA) (by rw [getD_of HX.out, getD_none (by rw [HB.out]; omega)]; omega) (by omega) (by omega))
          go_wp2_with fail
          go_roundw
          case rel =>
            have hz : ((x : Int) + 1000000000 - (c : Int)) = ((x + 1000000000 - c : Nat) : Int) := by omega
            exact ⟨i + 1, 1, _, by go_num, rfl, by omega, by omega, HN, by rw [hz]; exact hO.out.set i _, below_set hB.out (Nat.le_refl _) _⟩
          case measure => simp [intOf] <;> omega
        · have q1 : decide ((x : Int) < (c : Int)) = false := by simp; omega
          have HN := hid (hS.out.next (z := x - c) (c' := 0) (by rw [HA.out]; exact hA) (by rw [getD_of HX.out, getD_none (by rw [HB.out]; omega)]; omega) (by omega) (by omega))
          go_wp2_with fail
          go_roundw
          case rel =>
            have hz : ((x : Int) - (c : Int)) = ((x - c : Nat) : Int) := by omega
            exact ⟨i + 1, 0, _, by go_num, rfl, by omega, by omega, HN, by rw [hz]; exact hO.out.set i _, below_set hB.out (Nat.le_refl _) _⟩
          case measure => simp [intOf] <;> omega
    · obtain rfl : i = n := by omega
      have hv := hid (show val o = a - b ∧ Sm o from SubA.done (by have := hS.out; rw [← HA.out] at this; exact this) HL.out)
      have hr := hid (show Row wr (.slice (some ⟨w.heap.size, 0, none⟩) i i) (ints .u64 o) from by
        have := hO.out.row (n := i) (c := i) (by rw [hol.out]; exact Nat.le_refl _) (Nat.le_refl _) (by unfold maxLen; omega)
        rwa [List.take_of_length_le (by rw [hol.out]; exact Nat.le_refl _)] at this)
      go_wp2_with (go_at_call 137; refine (l_trim _ _ o hv.out.2 hr.out).mono ?_; rintro e w1 ⟨⟨v1, rfl, hv1⟩, rfl⟩)
      go_ret
      exact ⟨⟨v1, rfl, by rw [← hv.out.1]; exact hv1⟩, hB.out⟩
end Go.Proofs.YtpehhgkghgbhiaaGreatDoor

/- Walks: nat.pair; nat.Add, Sub, Mul, Cmp. -/
namespace Go.Proofs.YtpehhgkghgbhiaaGreatDoor
open Go.RowKit Go.Shelf
open Go.Lib (decDigits nDigits)
set_option linter.unusedVariables false

/-- The text and the error of an operation on two texts that gives R with the error x. -/
def pairB (R : ByteArray) (s t : ByteArray) : ByteArray := if errN s.data.toList = 0 ∧ errN t.data.toList = 0 then R else ⟨#[]⟩
def pairE (x : Int) (s t : ByteArray) : Int := if errN s.data.toList = 0 then (if errN t.data.toList = 0 then x else errN t.data.toList) else errN s.data.toList

theorem errN_dig {s : ByteArray} (h : errN s.data.toList = 0) : allDig s.data.toList ∧ s.size ≤ 4000 ∧ (limbs (bN s)).length ≤ 1000 := by
  obtain ⟨n, hn, h4⟩ := errN_zero.1 h
  have hd : allDig s.data.toList := by rw [hn]; exact allDig_dec n
  have hs : s.size ≤ 4000 := by
    have e : s.data.toList.length = s.size := Array.length_toList
    rw [← e, hn, Lib.decDigits_length]; exact h4
  refine ⟨hd, hs, ?_⟩
  have e : s.data.toList.length = s.size := Array.length_toList
  exact dv_limbs hd (by omega)

set_option maxRecDepth 100000 in
set_option maxHeartbeats 1000000 in
theorem n_pair (w : World) (s t : ByteArray) (F : Nat) (R : ByteArray) (x : Int) (hs : s.size ≤ 1000000) (ht : t.size ≤ 1000000) (hL : Lay w)
    (hen : ∀ args w, (callFunc F args).run Tryz.prog w = .ok (.enter F args) w)
    (hF : ∀ W v u, errN s.data.toList = 0 → errN t.data.toList = 0 → IsN .u64 W v (bN s) → IsN .u64 W u (bN t) → Lay W → Calls Tryz.prog F #[v, u] W fun e w' => e = .returned (.tuple #[.string R, .int .i64 x]) ∧ Below W.heap.size W w') :
    Calls Tryz.prog 107 #[.string s, .string t, .func (.func F) #[] #[]] w fun e w' => e = .returned (.tuple #[.string (pairB R s t), .int .i64 (pairE x s t)]) ∧ Below w.heap.size w w' := by
  have HS := fun W => hid (n_Check W s (by omega))
  have HT := fun W => hid (n_Check W t (by omega))
  have HL := hid hL
  have HF := hid hF
  clear hL hF
  by_cases h1 : errN s.data.toList = 0
  · by_cases h2 : errN t.data.toList = 0
    · have e1 : pairB R s t = R := if_pos ⟨h1, h2⟩
      have e2 : pairE x s t = x := by rw [pairE, if_pos h1, if_pos h2]
      rw [e1, e2]
      rw [h1] at HS
      rw [h2] at HT
      obtain ⟨d1, d2, -⟩ := errN_dig h1
      obtain ⟨d3, d4, -⟩ := errN_dig h2
      have P1 := fun W => hid (l_Parse W s d1 (by omega))
      have P2 := fun W => hid (l_Parse W t d3 (by omega))
      have H1 := hid h1; have H2 := hid h2
      have fe : firstE 0 0 = 0 := rfl
      clear h1 h2 d1 d2 d3 d4 e1 e2
      go_enter Tryz.func107, Tryz.ntmps107
      go_wp2_with fail
      refine (HS _).out.mono ?_; rintro e w1 ⟨rfl, hb1⟩
      have y1 := hid hb1; clear hb1
      go_wp2_with fail
      refine (HT _).out.mono ?_; rintro e w2 ⟨rfl, hb2⟩
      have y2 := hid (bnext y1.out hb2); clear hb2
      go_wp2_with fail
      refine (n_first _ _ 0 0 ?_ ?_).mono ?_
      · exact (Blk.new _ _ _).cell 0
      · exact (Blk.new _ _ _).cell 1
      rintro e w3 ⟨rfl, rfl⟩
      have y3 := hid (y2.out.alloc y2.out.size (.cells #[.int .i64 0, .int .i64 0] 28))
      rw [fe]
      go_wp2_with fail
      refine (P1 _).out.mono ?_; rintro e w4 ⟨⟨v4, rfl, hv4⟩, hb4⟩
      have y4 := hid (bnext y3.out hb4); have N4 := hid hv4; clear hb4 hv4
      go_wp2_with fail
      refine (P2 _).out.mono ?_; rintro e w5 ⟨⟨v5, rfl, hv5⟩, hb5⟩
      have y5 := hid (bnext y4.out hb5); have N5 := hid (N4.out.call hb5); have D5 := hid hv5; clear hb5 hv5
      go_wp2_with fail
      refine (HF.out _ _ _ H1.out H2.out N5.out D5.out (HL.out.call y5.out)).mono ?_; rintro e w6 ⟨rfl, hb6⟩
      have y6 := hid (bnext y5.out hb6); clear hb6
      go_wp2_with fail
      go_ret2
      exact ⟨rfl, y6.out⟩
    · have e1 : pairB R s t = ⟨#[]⟩ := if_neg (fun h => h2 h.2)
      have e2 : pairE x s t = errN t.data.toList := by rw [pairE, if_pos h1, if_neg h2]
      rw [e1, e2]
      rw [h1] at HS
      obtain ⟨y, hy⟩ : ∃ y, errN t.data.toList = y := ⟨_, rfl⟩
      rw [hy] at HT ⊢ h2
      have fe : firstE 0 y = y := rfl
      have q0 : (y == 0) = false := by simpa using h2
      have q1 : (y != 0) = true := by simpa using h2
      clear h1 e1 e2 hy
      go_enter Tryz.func107, Tryz.ntmps107
      go_wp2_with fail
      refine (HS _).out.mono ?_; rintro e w1 ⟨rfl, hb1⟩
      have y1 := hid hb1; clear hb1
      go_wp2_with fail
      refine (HT _).out.mono ?_; rintro e w2 ⟨rfl, hb2⟩
      have y2 := hid (bnext y1.out hb2); clear hb2
      go_wp2_with fail
      refine (n_first _ _ 0 y ?_ ?_).mono ?_
      · exact (Blk.new _ _ _).cell 0
      · exact (Blk.new _ _ _).cell 1
      rintro e w3 ⟨rfl, rfl⟩
      have y3 := hid (y2.out.alloc y2.out.size (.cells #[.int .i64 0, .int .i64 y] 28))
      rw [fe]
      go_wp2_with fail
      go_ret2
      exact ⟨rfl, y3.out⟩
  · have e1 : pairB R s t = ⟨#[]⟩ := if_neg (fun h => h1 h.1)
    have e2 : pairE x s t = errN s.data.toList := by rw [pairE, if_neg h1]
    rw [e1, e2]
    obtain ⟨y, hy⟩ : ∃ y, errN s.data.toList = y := ⟨_, rfl⟩
    obtain ⟨z, hz⟩ : ∃ z, errN t.data.toList = z := ⟨_, rfl⟩
    rw [hy] at HS ⊢ h1
    rw [hz] at HT
    have fe : firstE y z = y := if_neg h1
    have q0 : (y == 0) = false := by simpa using h1
    have q1 : (y != 0) = true := by simpa using h1
    clear e1 e2 hy hz
    go_enter Tryz.func107, Tryz.ntmps107
    go_wp2_with fail
    refine (HS _).out.mono ?_; rintro e w1 ⟨rfl, hb1⟩
    have y1 := hid hb1; clear hb1
    go_wp2_with fail
    refine (HT _).out.mono ?_; rintro e w2 ⟨rfl, hb2⟩
    have y2 := hid (bnext y1.out hb2); clear hb2
    go_wp2_with fail
    refine (n_first _ _ y z ?_ ?_).mono ?_
    · exact (Blk.new _ _ _).cell 0
    · exact (Blk.new _ _ _).cell 1
    rintro e w3 ⟨rfl, rfl⟩
    have y3 := hid (y2.out.alloc y2.out.size (.cells #[.int .i64 y, .int .i64 z] 28))
    rw [fe]
    go_wp2_with fail
    go_ret2
    exact ⟨rfl, y3.out⟩
end Go.Proofs.YtpehhgkghgbhiaaGreatDoor

/- Walks: nat.Add, Mul, Sub, Cmp. -/
namespace Go.Proofs.YtpehhgkghgbhiaaGreatDoor
open Go.RowKit Go.Shelf
open Go.Lib (decDigits nDigits)
set_option linter.unusedVariables false

/-- An operation on two texts: the text, the error. -/
def natB (f : Nat → Nat → Nat) (s t : ByteArray) : ByteArray := pairB (resB (f (bN s) (bN t))) s t
def natE (f : Nat → Nat → Nat) (s t : ByteArray) : Int := pairE (resE (f (bN s) (bN t))) s t

theorem len_add {a b k l : Nat} (ha : (limbs a).length ≤ k) (hb : (limbs b).length ≤ l) : (limbs (a + b)).length ≤ k + l + 1 := by
  have h1 := limbs_length_le.1 ha
  have h2 := limbs_length_le.1 hb
  refine limbs_length_le.2 ?_
  have h3 : 1000000000 ^ k ≤ 1000000000 ^ (k + l) := Nat.pow_le_pow_right (by omega) (by omega)
  have h4 : 1000000000 ^ l ≤ 1000000000 ^ (k + l) := Nat.pow_le_pow_right (by omega) (by omega)
  rw [Nat.pow_succ]
  omega
theorem len_mul {a b k l : Nat} (ha : (limbs a).length ≤ k) (hb : (limbs b).length ≤ l) : (limbs (a * b)).length ≤ k + l := by
  have h1 := limbs_length_le.1 ha
  have h2 := limbs_length_le.1 hb
  refine limbs_length_le.2 ?_
  rw [Nat.pow_add]
  exact Nat.mul_lt_mul'' h1 h2
theorem len_sub {a b k l : Nat} (ha : (limbs a).length ≤ k) (hb : (limbs b).length ≤ l) : (limbs (a - b)).length ≤ k :=
  Nat.le_trans (limbs_length_mono (Nat.sub_le a b)) ha

set_option maxRecDepth 100000 in
set_option maxHeartbeats 1000000 in
theorem n_Add1 (w : World) (v u : Value) (a b : Nat) (ha : IsN .u64 w v a) (hb : IsN .u64 w u b) (hla : (limbs a).length ≤ 1000) (hlb : (limbs b).length ≤ 1000) (hL : Lay w) :
    Calls Tryz.prog 166 #[v, u] w fun e w' => e = .returned (.tuple #[.string (resB (a + b)), .int .i64 (resE (a + b))]) ∧ Below w.heap.size w w' := by
  have HA := hid ha; have HB := hid hb; have HL := hid hL
  have LA := hid hla; have LB := hid hlb
  have LS := hid (len_add hla hlb)
  obtain ⟨a1, c1, rfl, _⟩ := ha.openI
  obtain ⟨a2, c2, rfl, _⟩ := hb.openI
  clear ha hb hL hla hlb
  go_enter Tryz.func166, Tryz.ntmps166
  go_wp2_with fail
  refine (l_Add _ _ _ a b HA.out HB.out (by have := LA.out; omega) (by have := LB.out; omega)).mono ?_
  rintro e w1 ⟨⟨v1, rfl, hv1⟩, hb1⟩
  have y1 := hid hb1; have V1 := hid hv1; clear hb1 hv1
  obtain ⟨a3, c3, rfl, _⟩ := V1.out.openI
  go_wp2_with fail
  refine (n_result _ _ _ V1.out (by have := LS.out; omega) (HL.out.call y1.out)).mono ?_
  rintro e w2 ⟨rfl, hb2⟩
  have y2 := hid (bnext y1.out hb2); clear hb2
  go_wp2_with fail
  go_ret2
  exact ⟨rfl, y2.out⟩

set_option maxRecDepth 100000 in
set_option maxHeartbeats 1000000 in
theorem n_Add (w : World) (s t : ByteArray) (hs : s.size ≤ 1000000) (ht : t.size ≤ 1000000) (hL : Lay w) :
    Calls Tryz.prog 131 #[.string s, .string t] w fun e w' => e = .returned (.tuple #[.string (natB ((· + ·)) s t), .int .i64 (natE ((· + ·)) s t)]) ∧ Below w.heap.size w w' := by
  have P := hid (n_pair w s t 166 (resB (((· + ·)) (bN s) (bN t))) (resE (((· + ·)) (bN s) (bN t))) hs ht hL (enters_of Tryz.func166 (by kernel_rfl) rfl)
    (fun W v u h1 h2 hv hu hLW => n_Add1 W v u _ _ hv hu (errN_dig h1).2.2 (errN_dig h2).2.2 hLW))
  go_enter Tryz.func131, Tryz.ntmps131
  go_wp2_with fail
  refine P.out.mono ?_
  rintro e w1 ⟨rfl, hb1⟩
  go_wp2_with fail
  go_ret2
  exact ⟨rfl, hb1⟩

set_option maxRecDepth 100000 in
set_option maxHeartbeats 1000000 in
theorem n_Mul1 (w : World) (v u : Value) (a b : Nat) (ha : IsN .u64 w v a) (hb : IsN .u64 w u b) (hla : (limbs a).length ≤ 1000) (hlb : (limbs b).length ≤ 1000) (hL : Lay w) :
    Calls Tryz.prog 108 #[v, u] w fun e w' => e = .returned (.tuple #[.string (resB (a * b)), .int .i64 (resE (a * b))]) ∧ Below w.heap.size w w' := by
  have HA := hid ha; have HB := hid hb; have HL := hid hL
  have LA := hid hla; have LB := hid hlb
  have LS := hid (len_mul hla hlb)
  obtain ⟨a1, c1, rfl, _⟩ := ha.openI
  obtain ⟨a2, c2, rfl, _⟩ := hb.openI
  clear ha hb hL hla hlb
  go_enter Tryz.func108, Tryz.ntmps108
  go_wp2_with fail
  refine (l_Mul _ _ _ a b HA.out HB.out (by have := LA.out; omega) (by have := LB.out; omega)).mono ?_
  rintro e w1 ⟨⟨v1, rfl, hv1⟩, hb1⟩
  have y1 := hid hb1; have V1 := hid hv1; clear hb1 hv1
  obtain ⟨a3, c3, rfl, _⟩ := V1.out.openI
  go_wp2_with fail
  refine (n_result _ _ _ V1.out (by have := LS.out; omega) (HL.out.call y1.out)).mono ?_
  rintro e w2 ⟨rfl, hb2⟩
  have y2 := hid (bnext y1.out hb2); clear hb2
  go_wp2_with fail
  go_ret2
  exact ⟨rfl, y2.out⟩

set_option maxRecDepth 100000 in
set_option maxHeartbeats 1000000 in
theorem n_Mul (w : World) (s t : ByteArray) (hs : s.size ≤ 1000000) (ht : t.size ≤ 1000000) (hL : Lay w) :
    Calls Tryz.prog 67 #[.string s, .string t] w fun e w' => e = .returned (.tuple #[.string (natB ((· * ·)) s t), .int .i64 (natE ((· * ·)) s t)]) ∧ Below w.heap.size w w' := by
  have P := hid (n_pair w s t 108 (resB (((· * ·)) (bN s) (bN t))) (resE (((· * ·)) (bN s) (bN t))) hs ht hL (enters_of Tryz.func108 (by kernel_rfl) rfl)
    (fun W v u h1 h2 hv hu hLW => n_Mul1 W v u _ _ hv hu (errN_dig h1).2.2 (errN_dig h2).2.2 hLW))
  go_enter Tryz.func67, Tryz.ntmps67
  go_wp2_with fail
  refine P.out.mono ?_
  rintro e w1 ⟨rfl, hb1⟩
  go_wp2_with fail
  go_ret2
  exact ⟨rfl, hb1⟩

/-- Subtraction's text and error. -/
def subB (a b : Nat) : ByteArray := if a < b then ⟨#[]⟩ else resB (a - b)
def subE (a b : Nat) : Int := if a < b then 2 else resE (a - b)

set_option maxRecDepth 100000 in
set_option maxHeartbeats 1000000 in
theorem n_Sub1 (w : World) (v u : Value) (a b : Nat) (ha : IsN .u64 w v a) (hb : IsN .u64 w u b) (hla : (limbs a).length ≤ 1000) (hlb : (limbs b).length ≤ 1000) (hL : Lay w) :
    Calls Tryz.prog 191 #[v, u] w fun e w' => e = .returned (.tuple #[.string (subB a b), .int .i64 (subE a b)]) ∧ Below w.heap.size w w' := by
  have HA := hid ha; have HB := hid hb; have HL := hid hL
  have LA := hid hla; have LB := hid hlb
  have LS := hid (len_sub hla hlb)
  obtain ⟨a1, c1, rfl, _⟩ := ha.openI
  obtain ⟨a2, c2, rfl, _⟩ := hb.openI
  clear ha hb hL hla hlb
  have C := hid (l_Cmp w _ _ a b HA.out HB.out (by have := LA.out; omega))
  by_cases h : a < b
  · have e1 : subB a b = ⟨#[]⟩ := if_pos h
    have e2 : subE a b = 2 := if_pos h
    rw [e1, e2]
    have e3 : ordN a b = -1 := ordN_lt h
    rw [e3] at C
    clear e1 e2 e3 h
    go_enter Tryz.func191, Tryz.ntmps191
    go_wp2_with fail
    refine C.out.mono ?_
    rintro e w1 ⟨rfl, hb1⟩
    go_wp2_with fail
    go_ret2
    exact ⟨rfl, hb1⟩
  · have e1 : subB a b = resB (a - b) := if_neg h
    have e2 : subE a b = resE (a - b) := if_neg h
    rw [e1, e2]
    have e3 : ordN a b = 0 ∨ ordN a b = 1 := by unfold ordN; rw [if_neg h]; split <;> simp
    obtain ⟨x, hx⟩ : ∃ x, ordN a b = x := ⟨_, rfl⟩
    rw [hx] at C e3
    have q0 : decide (x < 0) = false := by rcases e3 with rfl | rfl <;> decide
    have H := hid h
    clear e1 e2 e3 h hx
    go_enter Tryz.func191, Tryz.ntmps191
    go_wp2_with fail
    refine C.out.mono ?_
    rintro e w1 ⟨rfl, hb1⟩
    have y1 := hid hb1; clear hb1
    go_wp2_with fail
    refine (l_Sub _ _ _ a b (HA.out.call y1.out) (HB.out.call y1.out) (by have := H.out; omega) (by have := LA.out; omega)).mono ?_
    rintro e w2 ⟨⟨v1, rfl, hv1⟩, hb2⟩
    have y2 := hid (bnext y1.out hb2); have V1 := hid hv1; clear hb2 hv1
    obtain ⟨a3, c3, rfl, _⟩ := V1.out.openI
    go_wp2_with fail
    refine (n_result _ _ _ V1.out (by have := LS.out; omega) (HL.out.call y2.out)).mono ?_
    rintro e w3 ⟨rfl, hb3⟩
    have y3 := hid (bnext y2.out hb3); clear hb3
    go_wp2_with fail
    go_ret2
    exact ⟨rfl, y3.out⟩

set_option maxRecDepth 100000 in
set_option maxHeartbeats 1000000 in
theorem n_Sub (w : World) (s t : ByteArray) (hs : s.size ≤ 1000000) (ht : t.size ≤ 1000000) (hL : Lay w) :
    Calls Tryz.prog 161 #[.string s, .string t] w fun e w' => e = .returned (.tuple #[.string (pairB (subB (bN s) (bN t)) s t), .int .i64 (pairE (subE (bN s) (bN t)) s t)]) ∧ Below w.heap.size w w' := by
  have P := hid (n_pair w s t 191 (subB (bN s) (bN t)) (subE (bN s) (bN t)) hs ht hL (enters_of Tryz.func191 (by kernel_rfl) rfl)
    (fun W v u h1 h2 hv hu hLW => n_Sub1 W v u _ _ hv hu (errN_dig h1).2.2 (errN_dig h2).2.2 hLW))
  go_enter Tryz.func161, Tryz.ntmps161
  go_wp2_with fail
  refine P.out.mono ?_
  rintro e w1 ⟨rfl, hb1⟩
  go_wp2_with fail
  go_ret2
  exact ⟨rfl, hb1⟩

set_option maxRecDepth 100000 in
set_option maxHeartbeats 1000000 in
theorem n_Cmp (w : World) (s t : ByteArray) (hs : s.size ≤ 1000000) (ht : t.size ≤ 1000000) :
    Calls Tryz.prog 94 #[.string s, .string t] w fun e w' => e = .returned (.int .i64 (cmpN s.data.toList t.data.toList)) ∧ Below w.heap.size w w' := by
  have HS := fun W => hid (n_Check W s (by omega))
  have HT := fun W => hid (n_Check W t (by omega))
  by_cases h : errN s.data.toList = 0 ∧ errN t.data.toList = 0
  · have e1 : cmpN s.data.toList t.data.toList = ordN (bN s) (bN t) := if_pos h
    rw [e1]
    rw [h.1] at HS
    rw [h.2] at HT
    obtain ⟨d1, d2, d5⟩ := errN_dig h.1
    obtain ⟨d3, d4, -⟩ := errN_dig h.2
    have P1 := fun W => hid (l_Parse W s d1 (by omega))
    have P2 := fun W => hid (l_Parse W t d3 (by omega))
    have fe : firstE 0 0 = 0 := rfl
    have D5 := hid d5
    clear h d1 d2 d3 d4 d5 e1
    go_enter Tryz.func94, Tryz.ntmps94
    go_wp2_with fail
    refine (HS _).out.mono ?_; rintro e w1 ⟨rfl, hb1⟩
    have y1 := hid hb1; clear hb1
    go_wp2_with fail
    refine (HT _).out.mono ?_; rintro e w2 ⟨rfl, hb2⟩
    have y2 := hid (bnext y1.out hb2); clear hb2
    go_wp2_with fail
    refine (n_first _ _ 0 0 ?_ ?_).mono ?_
    · exact (Blk.new _ _ _).cell 0
    · exact (Blk.new _ _ _).cell 1
    rintro e w3 ⟨rfl, rfl⟩
    have y3 := hid (y2.out.alloc y2.out.size (.cells #[.int .i64 0, .int .i64 0] 28))
    rw [fe]
    go_wp2_with fail
    refine (P1 _).out.mono ?_; rintro e w4 ⟨⟨v4, rfl, hv4⟩, hb4⟩
    have y4 := hid (bnext y3.out hb4); have N4 := hid hv4; clear hb4 hv4
    go_wp2_with fail
    refine (P2 _).out.mono ?_; rintro e w5 ⟨⟨v5, rfl, hv5⟩, hb5⟩
    have y5 := hid (bnext y4.out hb5); have N5 := hid (N4.out.call hb5); have V5 := hid hv5; clear hb5 hv5
    go_wp2_with fail
    refine (l_Cmp _ _ _ _ _ N5.out V5.out (Nat.le_trans D5.out (by omega))).mono ?_; rintro e w6 ⟨rfl, hb6⟩
    have y6 := hid (bnext y5.out hb6); clear hb6
    go_wp2_with fail
    go_ret
    exact ⟨rfl, y6.out⟩
  · have e1 : cmpN s.data.toList t.data.toList = 0 := if_neg h
    rw [e1]
    obtain ⟨y, hy⟩ : ∃ y, errN s.data.toList = y := ⟨_, rfl⟩
    obtain ⟨z, hz⟩ : ∃ z, errN t.data.toList = z := ⟨_, rfl⟩
    rw [hy] at HS h
    rw [hz] at HT h
    have fe : ¬ firstE y z = 0 := by
      unfold firstE
      split
      · rename_i h1
        exact fun e => h ⟨h1, e⟩
      · rename_i h1
        exact h1
    obtain ⟨f, hf⟩ : ∃ f, firstE y z = f := ⟨_, rfl⟩
    rw [hf] at fe
    have q0 : (f == 0) = false := by simpa using fe
    have q1 : (f != 0) = true := by simpa using fe
    clear e1 hy hz h
    go_enter Tryz.func94, Tryz.ntmps94
    go_wp2_with fail
    refine (HS _).out.mono ?_; rintro e w1 ⟨rfl, hb1⟩
    have y1 := hid hb1; clear hb1
    go_wp2_with fail
    refine (HT _).out.mono ?_; rintro e w2 ⟨rfl, hb2⟩
    have y2 := hid (bnext y1.out hb2); clear hb2
    go_wp2_with fail
    refine (n_first _ _ y z ?_ ?_).mono ?_
    · exact (Blk.new _ _ _).cell 0
    · exact (Blk.new _ _ _).cell 1
    rintro e w3 ⟨rfl, rfl⟩
    have y3 := hid (y2.out.alloc y2.out.size (.cells #[.int .i64 y, .int .i64 z] 28))
    rw [hf]
    go_wp2_with fail
    go_ret
    exact ⟨rfl, y3.out⟩
end Go.Proofs.YtpehhgkghgbhiaaGreatDoor

/- Walks: choose.parts, choose.MaxBound. -/
namespace Go.Proofs.YtpehhgkghgbhiaaGreatDoor
open Go.RowKit Go.Shelf
open Go.Lib (decDigits nDigits)
set_option linter.unusedVariables false

/-- The error of choose.parts. -/
def bPE (s : ByteArray) : Int := if qE s ≠ 0 then qE s else if iM (cW s) = true ∨ cmpN (cW s).data.toList (qD s).data.toList < 0 then 2 else if 1000 < (cW s).size ∨ 1000 < (qD s).size then 5 else 0

set_option maxRecDepth 100000 in
set_option maxHeartbeats 2000000 in
theorem ch_parts (w : World) (s : ByteArray) (hs : s.size ≤ 100000) (hL : Lay w) :
    Calls Tryz.prog 61 #[.string s] w fun e w' => e = .returned (.tuple #[.string (if bPE s = 0 then cW s else ⟨#[]⟩), .string (if bPE s = 0 then qD s else ⟨#[]⟩), .int .i64 (bPE s)]) ∧ Below w.heap.size w w' := by
  have HC := hid (q_Parts w s (by omega) hL)
  have z1 := cW_size s
  have z2 := qD_size s
  have HM := fun V => hid (n_Cmp V (cW s) (qD s) (by omega) (by omega))
  by_cases he : qE s = 0
  · have e1 : pW s = cW s := if_pos he
    have e2 : pD s = qD s := if_pos he
    rw [e1, e2, he] at HC
    have HE : bPE s = if iM (cW s) = true ∨ cmpN (cW s).data.toList (qD s).data.toList < 0 then 2 else if 1000 < (cW s).size ∨ 1000 < (qD s).size then 5 else 0 := by
      unfold bPE
      rw [if_neg (fun h => h he)]
    rw [HE]
    clear HE e1 e2
    obtain ⟨D, hD⟩ : ∃ D, qD s = D := ⟨_, rfl⟩
    obtain ⟨W, hW⟩ : ∃ W, cW s = W := ⟨_, rfl⟩
    obtain ⟨hw0, hiM⟩ := qE_head he hW
    clear he
    obtain ⟨m, hm⟩ : ∃ m, iM W = m := ⟨_, rfl⟩
    obtain ⟨c, hc⟩ : ∃ c, cmpN W.data.toList D.data.toList = c := ⟨_, rfl⟩
    rw [hD, hW] at HC HM
    rw [hm] at hiM
    rw [hc] at HM
    rw [hD, hW, hm, hc]
    clear hD hW hm hc z1 z2
    rcases m with _ | _
    · by_cases hc2 : c < 0
      · have q0 : decide (c < (0 : Int)) = true := by simp; omega
        simp only [hc2, or_true, if_true, show ¬ (2 : Int) = 0 by decide, if_false]
        clear hc2
        go_enter Tryz.func61, Tryz.ntmps61
        go_wp2_with fail
        refine HC.out.mono ?_; rintro e w1 ⟨rfl, hb1⟩
        have y1 := hid hb1; clear hb1
        go_wp2_with fail
        refine (HM _).out.mono ?_; rintro e w2 ⟨rfl, hb2⟩
        have y2 := hid (bnext y1.out hb2); clear hb2
        go_wp2_with fail
        go_ret3
        exact ⟨rfl, y2.out⟩
      · have q0 : decide (c < (0 : Int)) = false := by simp; omega
        simp only [hc2, Bool.false_eq_true, or_self, if_false]
        clear hc2
        by_cases hl1 : 1000 < W.size
        · have q1 : decide ((1000 : Int) < (W.size : Int)) = true := by simp; omega
          simp only [hl1, true_or, if_true, show ¬ (5 : Int) = 0 by decide, if_false]
          clear hl1
          go_enter Tryz.func61, Tryz.ntmps61
          go_wp2_with fail
          refine HC.out.mono ?_; rintro e w1 ⟨rfl, hb1⟩
          have y1 := hid hb1; clear hb1
          go_wp2_with fail
          refine (HM _).out.mono ?_; rintro e w2 ⟨rfl, hb2⟩
          have y2 := hid (bnext y1.out hb2); clear hb2
          go_wp2_with fail
          go_ret3
          exact ⟨rfl, y2.out⟩
        · have q1 : decide ((1000 : Int) < (W.size : Int)) = false := by simp; omega
          by_cases hl2 : 1000 < D.size
          · have q2 : decide ((1000 : Int) < (D.size : Int)) = true := by simp; omega
            simp only [hl2, or_true, if_true, show ¬ (5 : Int) = 0 by decide, if_false]
            clear hl1 hl2
            go_enter Tryz.func61, Tryz.ntmps61
            go_wp2_with fail
            refine HC.out.mono ?_; rintro e w1 ⟨rfl, hb1⟩
            have y1 := hid hb1; clear hb1
            go_wp2_with fail
            refine (HM _).out.mono ?_; rintro e w2 ⟨rfl, hb2⟩
            have y2 := hid (bnext y1.out hb2); clear hb2
            go_wp2_with fail
            go_ret3
            exact ⟨rfl, y2.out⟩
          · have q2 : decide ((1000 : Int) < (D.size : Int)) = false := by simp; omega
            simp only [hl1, hl2, or_self, if_false, if_true]
            clear hl1 hl2
            go_enter Tryz.func61, Tryz.ntmps61
            go_wp2_with fail
            refine HC.out.mono ?_; rintro e w1 ⟨rfl, hb1⟩
            have y1 := hid hb1; clear hb1
            go_wp2_with fail
            refine (HM _).out.mono ?_; rintro e w2 ⟨rfl, hb2⟩
            have y2 := hid (bnext y1.out hb2); clear hb2
            go_wp2_with fail
            go_ret3
            exact ⟨rfl, y2.out⟩
    · simp only [true_or, if_true, show ¬ (2 : Int) = 0 by decide, if_false]
      go_enter Tryz.func61, Tryz.ntmps61
      go_wp2_with fail
      refine HC.out.mono ?_; rintro e w1 ⟨rfl, hb1⟩
      have y1 := hid hb1; clear hb1
      go_wp2_with fail
      go_ret3
      exact ⟨rfl, y1.out⟩
  · have e1 : pW s = ⟨#[]⟩ := if_neg he
    have e2 : pD s = ⟨#[]⟩ := if_neg he
    have e3 : bPE s = qE s := by unfold bPE; rw [if_pos he]
    rw [e1, e2] at HC
    rw [e3, if_neg he, if_neg he]
    obtain ⟨x, hx⟩ : ∃ x, qE s = x := ⟨_, rfl⟩
    rw [hx] at HC he ⊢
    have q0 : (x == 0) = false := by simpa using he
    have q1 : (x != 0) = true := by simpa using he
    clear e1 e2 e3 hx z1 z2 HM
    go_enter Tryz.func61, Tryz.ntmps61
    go_wp2_with fail
    refine HC.out.mono ?_; rintro e w1 ⟨rfl, hb1⟩
    have y1 := hid hb1; clear hb1
    go_wp2_with fail
    go_ret3
    exact ⟨rfl, y1.out⟩

/-- The greatest bound of a base. -/
def mbB (s : ByteArray) : Nat := if bPE s = 0 then 400 / (2 * (cW s).size) else 0

theorem bPE_size {s : ByteArray} (h : bPE s = 0) : 1 ≤ (cW s).size ∧ (cW s).size ≤ 1000 ∧ (qD s).size ≤ 1000 ∧ qE s = 0 := by
  have hq : qE s = 0 := by
    unfold bPE at h
    by_cases hq : qE s = 0
    · exact hq
    · rw [if_pos hq] at h; exact absurd h hq
  obtain ⟨h0, -⟩ := qE_head hq rfl
  unfold bPE at h
  rw [if_neg (by simpa using hq)] at h
  split at h
  · exact absurd h (by decide)
  · split at h
    · exact absurd h (by decide)
    · rename_i h2
      exact ⟨h0, by omega, by omega, hq⟩

set_option maxRecDepth 100000 in
set_option maxHeartbeats 1000000 in
theorem ch_MaxBound (w : World) (s : ByteArray) (hs : s.size ≤ 100000) (hL : Lay w) :
    Calls Tryz.prog 24 #[.string s] w fun e w' => e = .returned (.tuple #[.int .i64 (mbB s : Nat), .int .i64 (bPE s)]) ∧ Below w.heap.size w w' := by
  have PP := hid (ch_parts w s hs hL)
  by_cases he : bPE s = 0
  · obtain ⟨k1, k2, k3, -⟩ := bPE_size he
    have e1 : mbB s = 400 / (2 * (cW s).size) := if_pos he
    rw [e1, he]
    rw [if_pos he, if_pos he, he] at PP
    obtain ⟨D, hD⟩ : ∃ D, qD s = D := ⟨_, rfl⟩
    obtain ⟨W, hW⟩ : ∃ W, cW s = W := ⟨_, rfl⟩
    rw [hD, hW] at PP
    rw [hW] at k1 k2 ⊢
    have EQ := hid (show ((400 / (2 * W.size) : Nat) : Int) = 400 / (2 * (W.size : Int)) from by rw [Int.natCast_ediv, Int.natCast_mul]; rfl)
    have b1 : (0 : Int) < (W.size : Int) := by omega
    have b2 : (W.size : Int) ≤ 1000 := by omega
    clear he e1 k1 k2 k3 hD hW
    go_enter Tryz.func24, Tryz.ntmps24
    go_wp2_with fail
    refine PP.out.mono ?_; rintro e w1 ⟨rfl, hb1⟩
    have y1 := hid hb1; clear hb1
    go_wp2_with fail
    go_ret2
    exact ⟨by rw [EQ.out]; rfl, y1.out⟩
  · have e1 : mbB s = 0 := if_neg he
    rw [e1]
    rw [if_neg he, if_neg he] at PP
    obtain ⟨x, hx⟩ : ∃ x, bPE s = x := ⟨_, rfl⟩
    rw [hx] at PP he ⊢
    have q0 : (x == 0) = false := by simpa using he
    have q1 : (x != 0) = true := by simpa using he
    clear hx e1
    go_enter Tryz.func24, Tryz.ntmps24
    go_wp2_with fail
    refine PP.out.mono ?_; rintro e w1 ⟨rfl, hb1⟩
    have y1 := hid hb1; clear hb1
    go_wp2_with fail
    go_ret2
    exact ⟨rfl, y1.out⟩
end Go.Proofs.YtpehhgkghgbhiaaGreatDoor

/- Words: slices of ints. -/
namespace Go.Proofs.YtpehhgkghgbhiaaGreatDoor
open Go.RowKit

/-- A row of ints. -/
def zs (l : List Int) : List Value := l.map (Value.int .i64)
@[simp] theorem zs_length (l : List Int) : (zs l).length = l.length := by simp [zs]
theorem zs_get {l : List Int} {i : Nat} {x : Int} (h : l[i]? = some x) : (zs l)[i]? = some (.int .i64 x) := by simp [zs, h]
theorem zs_append (l m : List Int) : zs (l ++ m) = zs l ++ zs m := by simp [zs]
theorem zs_one (l : List Int) : ∀ u ∈ zs l, u.oneCell' = true := by
  intro u hu
  obtain ⟨x, _, rfl⟩ := List.mem_map.1 hu
  rfl
theorem Row.openZ {w : World} {v : Value} {l : List Int} (h : Row w v (zs l)) : ∃ a c, v = .slice a l.length c ∧ l.length ≤ c ∧ c ≤ 9223372036854775807 ∧ ∀ (i : Nat) (x : Int), l[i]? = some x → ∃ g o, a = some ⟨g, o, none⟩ ∧ g < w.heap.size ∧ w.cell? ⟨g, o + i, none⟩ = some (.int .i64 x) := by
  obtain ⟨a, c, rfl, h1, h2, h3⟩ := h.ex
  rw [zs_length] at *
  exact ⟨a, c, rfl, h1, by unfold maxLen at h2; omega, fun i x hx => h3 i _ (zs_get hx)⟩
end Go.Proofs.YtpehhgkghgbhiaaGreatDoor

/- Plain words: the coin. No program in sight. -/
namespace Go.Proofs.YtpehhgkghgbhiaaGreatDoor
open Go.RowKit
open Go.Lib (decDigits nDigits)

theorem bN_num (n : Nat) : bN (numB n) = n := by rw [bN, numB_list, dv_dec]
theorem errN_numB {n : Nat} (h : nDigits n ≤ 4000) : errN (numB n).data.toList = 0 := by rw [numB_list]; exact errN_num h
theorem natB_num {f : Nat → Nat → Nat} {a b : Nat} (ha : nDigits a ≤ 4000) (hb : nDigits b ≤ 4000) (hf : nDigits (f a b) ≤ 4000) : natB f (numB a) (numB b) = numB (f a b) := by
  unfold natB pairB
  rw [if_pos ⟨errN_numB ha, errN_numB hb⟩, bN_num, bN_num, resB, if_neg (by omega)]
theorem cmpN_num {a b : Nat} (ha : nDigits a ≤ 4000) (hb : nDigits b ≤ 4000) : cmpN (numB a).data.toList (numB b).data.toList = ordN a b := by
  unfold cmpN
  rw [if_pos ⟨errN_numB ha, errN_numB hb⟩, numB_list, numB_list, dv_dec, dv_dec]
theorem numB_small {n k : Nat} (h : n < 10 ^ k) (hk : 0 < k) (hk2 : k ≤ 4000) : nDigits n ≤ 4000 := Nat.le_trans (nDigits_le hk h) hk2
theorem numB_sz {n : Nat} (h : nDigits n ≤ 4000) : (numB n).size ≤ 1000000 := by rw [numB_size]; omega

/-- On which side of N / D the cell of K among T lies, and whether that is decided. -/
def sdV (N D K T : Nat) : Nat := if N * T ≤ K * D then 0 else 1
def sdB (N D K T : Nat) : Bool := decide (N * T ≤ K * D) || decide (K * D + D ≤ N * T)

/-- The coin's result, from the cell of K among T on: decided; the value; the bits used. -/
def toss (N D : Nat) : Nat → Nat → List UInt8 → Bool × Nat × Nat
  | K, T, l =>
    if sdB N D K T = true then (true, sdV N D K T, 0)
    else match l with
      | [] => (false, 0, 0)
      | b :: r =>
        let x := toss N D (2 * K + (if b = 49 then 1 else 0)) (2 * T) r
        (x.1, x.2.1, x.2.2 + 1)
  termination_by _ _ l => l.length

def eN : Nat := 1000
def eK : Nat := 100
/-- What may be computed with. -/
structure Fits (N D K T : Nat) : Prop where
  n : N < 10 ^ eN
  d : D < 10 ^ eN
  k : K < 10 ^ eK
  t : T < 10 ^ eK

theorem fit_mul {a b k l : Nat} (ha : a < 10 ^ k) (hb : b < 10 ^ l) : a * b < 10 ^ (k + l) := by
  rw [Nat.pow_add]
  exact Nat.mul_lt_mul'' ha hb
theorem fit_add {a b k : Nat} (ha : a < 10 ^ k) (hb : b < 10 ^ k) : a + b < 10 ^ (k + 1) := by
  rw [Nat.pow_succ]; omega
theorem fit_up {a k l : Nat} (ha : a < 10 ^ k) (h : k ≤ l) : a < 10 ^ l := Nat.lt_of_lt_of_le ha (Nat.pow_le_pow_right (by omega) h)
end Go.Proofs.YtpehhgkghgbhiaaGreatDoor

/- Plain words: weights, their sums, the index that a cell decides; what a factor changes: nothing. -/
namespace Go.Proofs.YtpehhgkghgbhiaaGreatDoor
open Go.RowKit
set_option linter.unusedVariables false

/-- The sum of the first i weights. -/
def pre (ws : List Nat) (i : Nat) : Nat := (ws.take i).sum
theorem pre_zero (ws : List Nat) : pre ws 0 = 0 := rfl
theorem pre_succ {ws : List Nat} {i x : Nat} (h : ws[i]? = some x) : pre ws (i + 1) = pre ws i + x := by
  unfold pre
  rw [List.take_add_one, h]
  simp
theorem pre_le (ws : List Nat) : ∀ (i d : Nat), pre ws i ≤ pre ws (i + d)
  | i, 0 => Nat.le_refl _
  | i, d + 1 => by
    refine Nat.le_trans (pre_le ws i d) ?_
    rw [← Nat.add_assoc]
    cases h : ws[i + d]? with
    | some x => rw [pre_succ h]; omega
    | none =>
      have hl := List.getElem?_eq_none_iff.1 h
      unfold pre
      rw [List.take_of_length_le hl, List.take_of_length_le (by omega)]
      exact Nat.le_refl _
theorem pre_mono (ws : List Nat) {i j : Nat} (h : i ≤ j) : pre ws i ≤ pre ws j := by
  obtain ⟨d, rfl⟩ := Nat.exists_eq_add_of_le h
  exact pre_le ws i d
theorem pre_all {ws : List Nat} {i : Nat} (h : ws.length ≤ i) : pre ws i = ws.sum := by unfold pre; rw [List.take_of_length_le h]
theorem pre_sum (ws : List Nat) (i : Nat) : pre ws i ≤ ws.sum := by
  by_cases h : i ≤ ws.length
  · have := pre_mono ws h
    rwa [pre_all (Nat.le_refl _)] at this
  · rw [pre_all (by omega)]; exact Nat.le_refl _

/-- The first number below n that p holds of, or n. -/
def fstI (p : Nat → Bool) (n : Nat) : Nat := (List.range n).findIdx p
theorem fstI_eq {p : Nat → Bool} {n i : Nat} (h1 : i ≤ n) (h2 : ∀ x, x < i → p x = false) (h3 : i < n → p i = true) : fstI p n = i := by
  unfold fstI
  by_cases hl : i < n
  · rw [List.findIdx_eq (by simpa using hl)]
    simp only [List.getElem_range]
    exact ⟨h3 hl, fun j hj => h2 j hj⟩
  · obtain rfl : i = n := by omega
    have h : (List.range i).findIdx p = (List.range i).length := by
      rw [List.findIdx_eq_length]
      intro x hx
      simp at hx
      exact by simpa using h2 x hx
    rw [h, List.length_range]

/-- A cell of k among t: which index, whether that is decided. -/
def pkF (ws : List Nat) (k t : Nat) : Nat × Bool :=
  let i := fstI (fun i => decide (k * ws.sum < pre ws (i + 1) * t)) ws.length
  (i, decide (i < ws.length) && decide (k * ws.sum + ws.sum ≤ pre ws (i + 1) * t))
def bwF (m k t : Nat) : Nat × Bool := (k * m / t, decide (k * m % t + m ≤ t))

/-- The result of a draw from the cell of k among t on. -/
def pdr (f : Nat → Nat → Nat × Bool) : Nat → Nat → List UInt8 → Bool × Nat × Nat
  | k, t, l =>
    if (f k t).2 = true then (true, (f k t).1, 0)
    else match l with
      | [] => (false, 0, 0)
      | b :: r =>
        let x := pdr f (k + k + (if b = 49 then 1 else 0)) (t + t) r
        (x.1, x.2.1, x.2.2 + 1)
  termination_by _ _ l => l.length

theorem pdr_done {f : Nat → Nat → Nat × Bool} {k t : Nat} {l : List UInt8} (h : (f k t).2 = true) : pdr f k t l = (true, (f k t).1, 0) := by
  rw [pdr.eq_def]; dsimp only; rw [if_pos h]
theorem pdr_late {f : Nat → Nat → Nat × Bool} {k t : Nat} (h : (f k t).2 = false) : pdr f k t [] = (false, 0, 0) := by
  rw [pdr.eq_def]; dsimp only; rw [if_neg (by simp [h])]
theorem pdr_next {f : Nat → Nat → Nat × Bool} {k t : Nat} {b : UInt8} {r : List UInt8} (h : (f k t).2 = false) : pdr f k t (b :: r) = ((pdr f (k + k + (if b = 49 then 1 else 0)) (t + t) r).1, (pdr f (k + k + (if b = 49 then 1 else 0)) (t + t) r).2.1, (pdr f (k + k + (if b = 49 then 1 else 0)) (t + t) r).2.2 + 1) := by
  rw [pdr.eq_def]; dsimp only; rw [if_neg (by simp [h])]
theorem pdr_congr {f g : Nat → Nat → Nat × Bool} (h : ∀ k t, k < t → f k t = g k t) : ∀ (l : List UInt8) (k t : Nat), k < t → pdr f k t l = pdr g k t l := by
  intro l
  induction l with
  | nil =>
    intro k t hk
    have e := h k t hk
    cases hf : (f k t).2
    · rw [pdr_late hf, pdr_late (by rw [← e]; exact hf)]
    · rw [pdr_done hf, pdr_done (by rw [← e]; exact hf), e]
  | cons b r ih =>
    intro k t hk
    have e := h k t hk
    cases hf : (f k t).2
    · rw [pdr_next hf, pdr_next (by rw [← e]; exact hf), ih _ _ (by split <;> omega)]
    · rw [pdr_done hf, pdr_done (by rw [← e]; exact hf), e]

/-- The result behind u bits. -/
def pdAt (f : Nat → Nat → Nat × Bool) (l : List UInt8) (k t u : Nat) : Bool × Nat × Nat := let x := pdr f k t (l.drop u); (x.1, x.2.1, x.2.2 + u)
theorem pdAt_done {f : Nat → Nat → Nat × Bool} {k t u : Nat} {l : List UInt8} (h : (f k t).2 = true) : pdAt f l k t u = (true, (f k t).1, u) := by
  unfold pdAt; rw [pdr_done h]; simp
theorem pdAt_late {f : Nat → Nat → Nat × Bool} {k t : Nat} {l : List UInt8} (h : (f k t).2 = false) : pdAt f l k t l.length = (false, 0, l.length) := by
  unfold pdAt; rw [List.drop_length, pdr_late h]; simp
theorem pdAt_next {f : Nat → Nat → Nat × Bool} {k t u : Nat} {l : List UInt8} (h : (f k t).2 = false) (hu : u < l.length) : pdAt f l k t u = pdAt f l (k + k + (if l[u] = 49 then 1 else 0)) (t + t) (u + 1) := by
  unfold pdAt
  rw [List.drop_eq_getElem_cons hu, pdr_next h]
  simp only [Prod.mk.injEq, true_and]
  omega
theorem pdAt_start (f : Nat → Nat → Nat × Bool) (l : List UInt8) : pdAt f l 0 1 0 = pdr f 0 1 l := by
  unfold pdAt; simp

/-- All weights by a factor. -/
def scl (c : Nat) (ws : List Nat) : List Nat := ws.map (fun x => x * c)
theorem scl_len (c : Nat) (ws : List Nat) : (scl c ws).length = ws.length := by simp [scl]
theorem sum_scl (c : Nat) : ∀ ws : List Nat, (scl c ws).sum = ws.sum * c
  | [] => by simp [scl]
  | x :: ws => by
    have := sum_scl c ws
    simp only [scl, List.map_cons, List.sum_cons] at this ⊢
    rw [this, Nat.add_mul]
theorem pre_scl (c : Nat) (ws : List Nat) (i : Nat) : pre (scl c ws) i = pre ws i * c := by
  unfold pre
  rw [← sum_scl]
  unfold scl
  rw [List.map_take]

theorem pkF_scl {c : Nat} (hc : 0 < c) (ws : List Nat) : pkF (scl c ws) = pkF ws := by
  funext k t
  unfold pkF
  simp only [scl_len, sum_scl, pre_scl]
  have e1 : ∀ x y : Nat, decide (k * (x * c) < y * c * t) = decide (k * x < y * t) := fun x y => by
    rw [decide_eq_decide, show k * (x * c) = k * x * c by rw [Nat.mul_assoc], show y * c * t = y * t * c by rw [Nat.mul_right_comm]]
    exact ⟨fun h => Nat.lt_of_mul_lt_mul_right h, fun h => Nat.mul_lt_mul_of_pos_right h hc⟩
  have e2 : ∀ x y : Nat, decide (k * (x * c) + x * c ≤ y * c * t) = decide (k * x + x ≤ y * t) := fun x y => by
    rw [decide_eq_decide, show k * (x * c) + x * c = (k * x + x) * c by rw [Nat.add_mul, Nat.mul_assoc], show y * c * t = y * t * c by rw [Nat.mul_right_comm]]
    exact ⟨fun h => Nat.le_of_mul_le_mul_right h hc, fun h => Nat.mul_le_mul_right c h⟩
  simp only [e1, e2]

theorem sum_ones : ∀ m : Nat, (List.replicate m 1).sum = m
  | 0 => rfl
  | m + 1 => by rw [List.replicate_succ, List.sum_cons, sum_ones m]; omega
theorem pre_ones {m i : Nat} (h : i ≤ m) : pre (List.replicate m 1) i = i := by
  unfold pre
  rw [List.take_replicate, Nat.min_eq_left h, sum_ones]
theorem pkF_ones {m k t : Nat} (hm : 0 < m) (hk : k < t) : pkF (List.replicate m 1) k t = bwF m k t := by
  have ht : 0 < t := by omega
  have hq : k * m / t < m := by
    rw [Nat.div_lt_iff_lt_mul ht, Nat.mul_comm m]
    exact Nat.mul_lt_mul_of_pos_right hk hm
  have hdm := Nat.div_add_mod (k * m) t
  have hml := Nat.mod_lt (k * m) ht
  have hi : fstI (fun i => decide (k * m < pre (List.replicate m 1) (i + 1) * t)) m = k * m / t := by
    refine fstI_eq (Nat.le_of_lt hq) (fun x hx => ?_) (fun _ => ?_)
    · rw [pre_ones (by omega), decide_eq_false_iff_not, Nat.not_lt]
      have : (x + 1) * t ≤ (k * m / t) * t := Nat.mul_le_mul_right t (by omega)
      rw [Nat.mul_comm (k * m / t)] at this
      omega
    · rw [pre_ones (by omega), decide_eq_true_iff, Nat.add_mul, Nat.one_mul, Nat.mul_comm (k * m / t)]
      omega
  unfold pkF bwF
  simp only [sum_ones, List.length_replicate, hi]
  rw [pre_ones (by omega), decide_eq_true hq, Bool.true_and]
  congr 1
  rw [decide_eq_decide, Nat.add_mul, Nat.one_mul, Nat.mul_comm (k * m / t)]
  constructor <;> intro h <;> omega

/-- How many bit strings of a length with t cells decide the index i. -/
def cntF (ws : List Nat) (t i : Nat) : Nat := pre ws i * t / ws.sum + (if pre ws i * t % ws.sum ≠ 0 then 1 else 0)
def cntE (ws : List Nat) (t i : Nat) : Nat := pre ws (i + 1) * t / ws.sum
def cnt (ws : List Nat) (t i : Nat) : Nat := cntE ws t i - cntF ws t i
theorem cnt_scl {c : Nat} (hc : 0 < c) (ws : List Nat) (t i : Nat) : cntF (scl c ws) t i = cntF ws t i ∧ cntE (scl c ws) t i = cntE ws t i := by
  unfold cntF cntE
  simp only [sum_scl, pre_scl]
  have e : ∀ y : Nat, y * c * t = y * t * c := fun y => Nat.mul_right_comm y c t
  simp only [e, Nat.mul_div_mul_right _ _ hc, Nat.mul_mod_mul_right]
  refine ⟨?_, trivial⟩
  congr 1
  by_cases h : pre ws i * t % ws.sum = 0
  · simp [h]
  · rw [if_pos h, if_pos (Nat.mul_ne_zero h (by omega))]
end Go.Proofs.YtpehhgkghgbhiaaGreatDoor

/- Plain words: digits and limbs. -/
namespace Go.Proofs.YtpehhgkghgbhiaaGreatDoor
open Go.RowKit
open Go.Lib (decDigits nDigits)

theorem limbs_digits {n K : Nat} (h : nDigits n ≤ 9 * K) : (limbs n).length ≤ K := by
  refine limbs_length_le.2 ?_
  have h1 := Go.Lib.lt_pow_nDigits n
  have h2 : 10 ^ nDigits n ≤ 10 ^ (9 * K) := Nat.pow_le_pow_right (by omega) h
  rw [Nat.pow_mul] at h2
  exact Nat.lt_of_lt_of_le h1 h2

theorem limbs_of_digits {n : Nat} (h : nDigits n ≤ 4000) : (limbs n).length ≤ 445 := limbs_digits (by omega)

theorem limbs_mul {a b p q : Nat} (ha : (limbs a).length ≤ p) (hb : (limbs b).length ≤ q) : (limbs (a * b)).length ≤ p + q := by
  refine limbs_length_le.2 ?_
  have h1 := limbs_length_le.1 ha
  have h2 := limbs_length_le.1 hb
  rw [Nat.pow_add]
  exact Nat.mul_lt_mul'' h1 h2

theorem IsN.cast {k : IntKind} {w : World} {v : Value} {m n : Nat} (h : IsN k w v m) (e : m = n) : IsN k w v n := e ▸ h

theorem nDigits_one : nDigits 1 = 1 := Go.Lib.nDigits_small (by omega)
theorem nDigits_zero : nDigits 0 = 1 := Go.Lib.nDigits_small (by omega)
end Go.Proofs.YtpehhgkghgbhiaaGreatDoor

/- Plain: how many digits sums and products have; walks: nat.pair at a closure that may write, nat.DivMod, nat.ToInt. -/
namespace Go.Proofs.YtpehhgkghgbhiaaGreatDoor
open Go.RowKit Go.Shelf
open Go.Lib (decDigits nDigits)
set_option linter.unusedVariables false
set_option linter.unusedSimpArgs false

theorem nd_lt {n A : Nat} (h : nDigits n ≤ A) : n < 10 ^ A := Nat.lt_of_lt_of_le (Go.Lib.lt_pow_nDigits n) (Nat.pow_le_pow_right (by omega) h)
theorem nd_mul {a b A B : Nat} (ha : nDigits a ≤ A) (hb : nDigits b ≤ B) (h0 : 0 < A + B) : nDigits (a * b) ≤ A + B := nDigits_le h0 (fit_mul (nd_lt ha) (nd_lt hb))
theorem nd_add {a b A : Nat} (ha : nDigits a ≤ A) (hb : nDigits b ≤ A) : nDigits (a + b) ≤ A + 1 := nDigits_le (by omega) (fit_add (nd_lt ha) (nd_lt hb))
theorem nd_pos (n : Nat) : 0 < nDigits n := by
  have h := Go.Lib.lt_pow_nDigits n
  rcases Nat.eq_zero_or_pos (nDigits n) with e | e
  · rw [← Go.Lib.decDigits_length] at e
    exact absurd (List.eq_nil_of_length_eq_zero e) (dec_ne_nil n)
  · exact e
theorem sum_lt {A : Nat} : ∀ (ws : List Nat), (∀ x ∈ ws, nDigits x ≤ A) → ws.sum ≤ ws.length * 10 ^ A
  | [], _ => by simp
  | x :: ws, h => by
    have h1 := nd_lt (h x (List.mem_cons_self ..))
    have h2 := sum_lt ws (fun y hy => h y (List.mem_cons_of_mem _ hy))
    rw [List.sum_cons, List.length_cons, Nat.add_mul, Nat.one_mul]
    omega
theorem nd_sum {A : Nat} {ws : List Nat} (h : ∀ x ∈ ws, nDigits x ≤ A) (hl : ws.length < 100) : nDigits ws.sum ≤ A + 2 := by
  refine nDigits_le (by omega) (Nat.lt_of_le_of_lt (sum_lt ws h) ?_)
  rw [Nat.pow_add, Nat.mul_comm]
  exact Nat.mul_lt_mul_of_pos_left (by omega) (Nat.pow_pos (by omega))
theorem nd_pre {ws : List Nat} (i : Nat) {A : Nat} (h : nDigits ws.sum ≤ A) : nDigits (pre ws i) ≤ A := Nat.le_trans (nDigits_mono (pre_sum ws i)) h

set_option maxRecDepth 100000 in
set_option maxHeartbeats 1000000 in
theorem n_pairK (w : World) (s t : ByteArray) (F : Nat) (cs : Array Value) (R : ByteArray) (x : Int) (QQ : World → World → Prop) (hs : errN s.data.toList = 0) (ht : errN t.data.toList = 0)
    (hen : ∀ args w, (callFunc F args).run Tryz.prog w = .ok (.enter F args) w)
    (hF : ∀ W v u, Below w.heap.size w W → IsN .u64 W v (bN s) → IsN .u64 W u (bN t) → Calls Tryz.prog F (#[v, u] ++ cs) W fun e w' => e = .returned (.tuple #[.string R, .int .i64 x]) ∧ QQ W w') :
    Calls Tryz.prog 107 #[.string s, .string t, .func (.func F) #[] cs] w fun e w' => e = .returned (.tuple #[.string R, .int .i64 x]) ∧ ∃ W, Below w.heap.size w W ∧ QQ W w' := by
  obtain ⟨d1, d2, -⟩ := errN_dig hs
  obtain ⟨d3, d4, -⟩ := errN_dig ht
  have HS := fun W => hid (n_Check W s (by omega))
  have HT := fun W => hid (n_Check W t (by omega))
  rw [hs] at HS
  rw [ht] at HT
  have HF := hid hF
  have P1 := fun W => hid (l_Parse W s d1 (by omega))
  have P2 := fun W => hid (l_Parse W t d3 (by omega))
  have fe : firstE 0 0 = 0 := rfl
  clear hF hs ht d1 d2 d3 d4
  go_enter Tryz.func107, Tryz.ntmps107
  go_wp2_with fail
  refine (HS _).out.mono ?_; rintro e w1 ⟨rfl, hb1⟩
  have y1 := hid hb1; clear hb1
  go_wp2_with fail
  refine (HT _).out.mono ?_; rintro e w2 ⟨rfl, hb2⟩
  have y2 := hid (bnext y1.out hb2); clear hb2
  go_wp2_with fail
  refine (n_first _ _ 0 0 ?_ ?_).mono ?_
  · exact (Blk.new _ _ _).cell 0
  · exact (Blk.new _ _ _).cell 1
  rintro e w3 ⟨rfl, rfl⟩
  have y3 := hid (y2.out.alloc y2.out.size (.cells #[.int .i64 0, .int .i64 0] 28))
  rw [fe]
  go_wp2_with fail
  refine (P1 _).out.mono ?_; rintro e w4 ⟨⟨v4, rfl, hv4⟩, hb4⟩
  have y4 := hid (bnext y3.out hb4); have N4 := hid hv4; clear hb4 hv4
  go_wp2_with fail
  refine (P2 _).out.mono ?_; rintro e w5 ⟨⟨v5, rfl, hv5⟩, hb5⟩
  have y5 := hid (bnext y4.out hb5); have N5 := hid (N4.out.call hb5); have D5 := hid hv5; clear hb5 hv5
  go_wp2_with fail
  refine (HF.out _ _ _ y5.out N5.out D5.out).mono ?_; rintro e w6 ⟨rfl, hq⟩
  have y6 := hid (show ∃ W, Below w.heap.size w W ∧ QQ W w6 from ⟨_, y5.out, hq⟩); clear hq
  go_wp2_with fail
  go_ret2
  exact ⟨rfl, y6.out⟩
end Go.Proofs.YtpehhgkghgbhiaaGreatDoor

/- Plain words: the weights of the exponential mechanism, what they are to each other. -/
namespace Go.Proofs.YtpehhgkghgbhiaaGreatDoor
open Go.RowKit
open Go.Lib (decDigits nDigits)
set_option linter.unusedVariables false

/-- A utility that is clamped. -/
def clp (B : Nat) (u : Int) : Int := max (-(B : Int)) (min (B : Int) u)
theorem clp_lo (B : Nat) (u : Int) : -(B : Int) ≤ clp B u := Int.le_max_left _ _
theorem clp_hi (B : Nat) (u : Int) : clp B u ≤ (B : Int) := by unfold clp; omega
theorem clp_mono {B : Nat} {u v : Int} (h : u ≤ v) : clp B u ≤ clp B v := by unfold clp; omega
theorem clp_near {B : Nat} {u v : Int} {S : Nat} (h : u ≤ v + S) : clp B u ≤ clp B v + S := by unfold clp; omega
theorem clp_in {B : Nat} {u : Int} (h1 : -(B : Int) ≤ u) (h2 : u ≤ (B : Int)) : clp B u = u := by unfold clp; omega

/-- The weight of a utility. -/
def cwN (n d B : Nat) (u : Int) : Nat := n ^ ((B : Int) + clp B u).toNat * d ^ ((B : Int) - clp B u).toNat
def cwL (n d B : Nat) (us : List Int) : List Nat := us.map (cwN n d B)

theorem pow_swap {n d a b a' b' : Nat} (hd : d ≤ n) (hs : a + b = a' + b') (h : a ≤ a') : n ^ a * d ^ b ≤ n ^ a' * d ^ b' := by
  obtain ⟨k, rfl⟩ := Nat.exists_eq_add_of_le h
  obtain rfl : b = b' + k := by omega
  rw [Nat.pow_add, Nat.pow_add, Nat.mul_assoc, Nat.mul_comm (n ^ k)]
  exact Nat.mul_le_mul_left _ (Nat.mul_le_mul_left _ (Nat.pow_le_pow_left hd k))

/-- A base and a bound that can be computed with. -/
structure ChOk (n d B : Nat) : Prop where
  d1 : 1 ≤ d
  le : d ≤ n
  fit : 2 * B * nDigits n ≤ 400

theorem nd_pow {n L k : Nat} (h : nDigits n ≤ L) (hk : 0 < L * k) : nDigits (n ^ k) ≤ L * k := by
  refine nDigits_le hk ?_
  rw [Nat.pow_mul]
  have hk0 : k ≠ 0 := by intro e; rw [e] at hk; omega
  exact Nat.pow_lt_pow_left (nd_lt h) hk0

theorem ChOk.pow {n d B : Nat} (h : ChOk n d B) {k : Nat} (hk : k ≤ 2 * B) : nDigits (n ^ k) ≤ 400 ∧ nDigits (d ^ k) ≤ 400 := by
  have hn : nDigits (n ^ k) ≤ 400 := by
    rcases Nat.eq_zero_or_pos k with rfl | hk0
    · rw [Nat.pow_zero, nDigits_one]; omega
    · have h1 := nd_pos n
      have h2 := nd_pow (n := n) (L := nDigits n) (k := k) (Nat.le_refl _) (Nat.mul_pos h1 hk0)
      have h3 : nDigits n * k ≤ nDigits n * (2 * B) := Nat.mul_le_mul_left _ hk
      rw [Nat.mul_comm (nDigits n) (2 * B)] at h3
      have := h.fit
      omega
  exact ⟨hn, Nat.le_trans (nDigits_mono (Nat.pow_le_pow_left h.le k)) hn⟩

theorem cw_exp (B : Nat) (u : Int) : ((B : Int) + clp B u).toNat ≤ 2 * B ∧ ((B : Int) - clp B u).toNat ≤ 2 * B ∧ ((B : Int) + clp B u).toNat + ((B : Int) - clp B u).toNat = 2 * B := by
  have h1 := clp_lo B u
  have h2 := clp_hi B u
  omega

theorem ChOk.fits {n d B : Nat} (h : ChOk n d B) (u : Int) : nDigits (cwN n d B u) ≤ 400 := by
  obtain ⟨h1, h2, h3⟩ := cw_exp B u
  have hle : cwN n d B u ≤ n ^ (2 * B) * d ^ 0 := pow_swap h.le (by omega) h1
  rw [Nat.pow_zero, Nat.mul_one] at hle
  exact Nat.le_trans (nDigits_mono hle) (h.pow (Nat.le_refl _)).1

theorem ChOk.pos {n d B : Nat} (h : ChOk n d B) (u : Int) : 0 < cwN n d B u :=
  Nat.mul_pos (Nat.pow_pos (by have := h.d1; have := h.le; omega)) (Nat.pow_pos h.d1)

theorem cw_mono {n d B : Nat} (h : ChOk n d B) {u v : Int} (huv : u ≤ v) : cwN n d B u ≤ cwN n d B v := by
  obtain ⟨h1, h2, h3⟩ := cw_exp B u
  obtain ⟨k1, k2, k3⟩ := cw_exp B v
  have h4 := clp_lo B u
  have := clp_mono (B := B) huv
  exact pow_swap h.le (by omega) (by omega)

theorem cw_near {n d B : Nat} (h : ChOk n d B) {u v : Int} {S : Nat} (huv : u ≤ v + S) : cwN n d B u * d ^ S ≤ cwN n d B v * n ^ S := by
  obtain ⟨h1, h2, h3⟩ := cw_exp B u
  obtain ⟨k1, k2, k3⟩ := cw_exp B v
  have h4 := clp_lo B u
  have h5 := clp_lo B v
  have := clp_near (B := B) huv
  have key := pow_swap (n := n) (d := d) (a := ((B : Int) + clp B u).toNat) (b := ((B : Int) - clp B u).toNat + S) (a' := ((B : Int) + clp B v).toNat + S) (b' := ((B : Int) - clp B v).toNat) h.le (by omega) (by omega)
  rw [Nat.pow_add, Nat.pow_add] at key
  unfold cwN
  rw [Nat.mul_assoc, Nat.mul_right_comm (n ^ ((B : Int) + clp B v).toNat)]
  exact key

theorem cw_shift {n d B : Nat} {u : Int} {s : Nat} (h1 : -(B : Int) ≤ u) (h2 : u ≤ (B : Int)) (h3 : u + (s : Int) ≤ (B : Int)) : cwN n d B (u + (s : Int)) * d ^ s = cwN n d B u * n ^ s := by
  unfold cwN
  rw [clp_in h1 h2, clp_in (by omega) h3]
  have e1 : ((B : Int) + (u + (s : Int))).toNat = ((B : Int) + u).toNat + s := by omega
  have e2 : ((B : Int) - u).toNat = ((B : Int) - (u + (s : Int))).toNat + s := by omega
  rw [e1, e2, Nat.pow_add, Nat.pow_add]
  ac_rfl

/-- Pointwise bounds give a bound of sums. -/
theorem sum_bound {f g : Int → Nat} {a b : Nat} : ∀ {L M : List Int}, L.length = M.length → (∀ (i : Nat) (x y : Int), L[i]? = some x → M[i]? = some y → f x * a ≤ g y * b) → (L.map f).sum * a ≤ (M.map g).sum * b := by
  intro L
  induction L with
  | nil => intro M hl h; cases M with
    | nil => simp
    | cons y r => simp at hl
  | cons x L ih =>
    intro M hl h
    cases M with
    | nil => simp at hl
    | cons y M =>
      have h0 := h 0 x y rfl rfl
      have h1 := ih (M := M) (by simpa using hl) (fun i p q hp hq => h (i + 1) p q (by simpa using hp) (by simpa using hq))
      simp only [List.map_cons, List.sum_cons, Nat.add_mul]
      omega
end Go.Proofs.YtpehhgkghgbhiaaGreatDoor

/- Walks: bits.Check. -/
namespace Go.Proofs.YtpehhgkghgbhiaaGreatDoor
open Go.RowKit Go.Shelf
open Go.Lib (decDigits nDigits)
set_option linter.unusedVariables false

/-- A string of bits. -/
def bitB (s : ByteArray) : Bool := s.data.toList.all fun b => b == 48 || b == 49
def bitE (s : ByteArray) : Int := if bitB s = true then 0 else 3

theorem bits_ascii : ∀ (j : Nat) b, (⟨#[48, 49]⟩ : ByteArray).data.toList[j]? = some b → b.toNat < 128 := ascii_of_all (by decide)

theorem bitB_trim (s : ByteArray) : (Lib.trimS s.data.toList [48, 49]).isEmpty = bitB s := by
  rw [Bool.eq_iff_iff, List.isEmpty_iff, trim_nil, bitB, List.all_eq_true]
  refine forall_congr' fun b => forall_congr' fun _ => ?_
  rw [List.contains_iff_mem]
  simp

set_option maxRecDepth 100000 in
set_option maxHeartbeats 1000000 in
theorem b_Check (w : World) (s : ByteArray) (hs : s.size ≤ 100000000) :
    Calls Tryz.prog 128 #[.string s] w fun e w' => e = .returned (.int .i64 (bitE s)) ∧ Below w.heap.size w w' := by
  have htr := hid (Tryz.strings_Trim s ⟨#[48, 49]⟩ w (by omega) (by decide) bits_ascii)
  have hb := bitB_trim s
  obtain ⟨r, hr⟩ : ∃ r, Lib.trimS s.data.toList [48, 49] = r := ⟨_, rfl⟩
  have e0 : (⟨#[48, 49]⟩ : ByteArray).data.toList = [48, 49] := rfl
  rw [e0, hr] at htr
  rw [hr] at hb
  cases r with
  | nil =>
    have e1 : bitE s = 0 := if_pos hb.symm
    rw [e1]
    clear hb hr e1
    go_enter Tryz.func128, Tryz.ntmps128
    go_wp2_with fail
    refine htr.out.mono ?_; rintro e w1 ⟨rfl, hb1⟩
    go_wp2_with fail
    go_ret
    exact ⟨rfl, hb1⟩
  | cons b r =>
    have e1 : bitE s = 3 := if_neg (by rw [← hb]; simp)
    rw [e1]
    clear hb hr e1
    go_enter Tryz.func128, Tryz.ntmps128
    go_wp2_with fail
    refine htr.out.mono ?_; rintro e w1 ⟨rfl, hb1⟩
    go_wp2_with fail
    go_ret
    exact ⟨rfl, hb1⟩

/-- The error of a string of bits of bounded length. -/
def chkE (s : ByteArray) : Int := if bitB s = true then (if 256 < s.size then 4 else 0) else 3
end Go.Proofs.YtpehhgkghgbhiaaGreatDoor

/- Walks: pick.plus, less, times, checked, check. -/
namespace Go.Proofs.YtpehhgkghgbhiaaGreatDoor
open Go.RowKit Go.Shelf
open Go.Lib (decDigits nDigits)
set_option linter.unusedVariables false
set_option linter.unusedSimpArgs false

set_option maxRecDepth 100000 in
set_option maxHeartbeats 1000000 in
theorem p_checked (w : World) (s : ByteArray) (hs : s.size ≤ 100000000) :
    Calls Tryz.prog 88 #[.string s] w fun e w' => e = .returned (.int .i64 (chkE s)) ∧ Below w.heap.size w w' := by
  have HC := hid (b_Check w s hs)
  by_cases hb : bitB s = true
  · have e0 : bitE s = 0 := if_pos hb
    rw [e0] at HC
    by_cases hl : 256 < s.size
    · have e1 : chkE s = 4 := by rw [chkE, if_pos hb, if_pos hl]
      have q0 : decide ((256 : Int) < (s.size : Int)) = true := by simp; omega
      rw [e1]
      clear hb hl e0 e1
      go_enter Tryz.func88, Tryz.ntmps88
      go_wp2_with fail
      refine HC.out.mono ?_; rintro e w1 ⟨rfl, hb1⟩
      go_wp2_with fail
      go_ret
      exact ⟨rfl, hb1⟩
    · have e1 : chkE s = 0 := by rw [chkE, if_pos hb, if_neg hl]
      have q0 : decide ((256 : Int) < (s.size : Int)) = false := by simp; omega
      rw [e1]
      clear hb hl e0 e1
      go_enter Tryz.func88, Tryz.ntmps88
      go_wp2_with fail
      refine HC.out.mono ?_; rintro e w1 ⟨rfl, hb1⟩
      go_wp2_with fail
      go_ret
      exact ⟨rfl, hb1⟩
  · have e0 : bitE s = 3 := if_neg hb
    have e1 : chkE s = 3 := if_neg hb
    rw [e0] at HC
    rw [e1]
    clear hb e0 e1
    go_enter Tryz.func88, Tryz.ntmps88
    go_wp2_with fail
    refine HC.out.mono ?_; rintro e w1 ⟨rfl, hb1⟩
    go_wp2_with fail
    go_ret
    exact ⟨rfl, hb1⟩

/-- On numerals that are small enough. -/
theorem pk_plus (w : World) (a b : Nat) (ha : nDigits a ≤ 4000) (hb : nDigits b ≤ 4000) (hab : nDigits (a + b) ≤ 4000) (hL : Lay w) :
    Calls Tryz.prog 95 #[.string (numB a), .string (numB b)] w fun e w' => e = .returned (.string (numB (a + b))) ∧ Below w.heap.size w w' := by
  have P := hid (n_Add w (numB a) (numB b) (numB_sz ha) (numB_sz hb) hL)
  rw [natB_num ha hb hab] at P
  generalize numB a = A at *
  generalize numB b = B at *
  generalize numB (a + b) = C at *
  clear ha hb hab hL
  go_enter Tryz.func95, Tryz.ntmps95
  go_wp2_with fail
  refine P.out.mono ?_; rintro e w1 ⟨rfl, hb1⟩
  go_wp2_with fail
  go_ret
  exact ⟨rfl, hb1⟩

/-- On numerals that are small enough. -/
theorem pk_times (w : World) (a b : Nat) (ha : nDigits a ≤ 4000) (hb : nDigits b ≤ 4000) (hab : nDigits (a * b) ≤ 4000) (hL : Lay w) :
    Calls Tryz.prog 91 #[.string (numB a), .string (numB b)] w fun e w' => e = .returned (.string (numB (a * b))) ∧ Below w.heap.size w w' := by
  have P := hid (n_Mul w (numB a) (numB b) (numB_sz ha) (numB_sz hb) hL)
  rw [natB_num ha hb hab] at P
  generalize numB a = A at *
  generalize numB b = B at *
  generalize numB (a * b) = C at *
  clear ha hb hab hL
  go_enter Tryz.func91, Tryz.ntmps91
  go_wp2_with fail
  refine P.out.mono ?_; rintro e w1 ⟨rfl, hb1⟩
  go_wp2_with fail
  go_ret
  exact ⟨rfl, hb1⟩

/-- Texts in memory. -/
def strs (l : List ByteArray) : List Value := l.map Value.string
@[simp] theorem strs_length (l : List ByteArray) : (strs l).length = l.length := by simp [strs]
theorem strs_get {l : List ByteArray} {i : Nat} {b : ByteArray} (h : l[i]? = some b) : (strs l)[i]? = some (.string b) := by simp [strs, h]

/-- The first error of some weights. -/
def wtE : List ByteArray → Int
  | [] => 0
  | b :: r => if errN b.data.toList ≠ 0 then errN b.data.toList else if 3800 < b.size then 5 else wtE r
/-- The error of weights. -/
def wsE (l : List ByteArray) : Int := if l.length = 0 ∨ 64 < l.length then 2 else if wtE l ≠ 0 then wtE l else if l.any (fun b => decide (b ≠ ⟨#[48]⟩)) = true then 0 else 6
end Go.Proofs.YtpehhgkghgbhiaaGreatDoor

/- Plain words: texts of natural numbers, the parts of a valid text. -/
namespace Go.Proofs.YtpehhgkghgbhiaaGreatDoor
open Go.RowKit
open Go.Lib (decDigits nDigits)

theorem numB_of {s : ByteArray} (h : fB s = true) : s = numB (bN s) := by
  have h1 := dec_of_form (formB_iff.1 h)
  apply ByteArray.ext
  show s.data = (decDigits (dv s.data.toList)).toArray
  rw [← h1]

theorem bN_lt {s : ByteArray} (h : fB s = true) (hs : ¬ 1000 < s.size) : bN s < 10 ^ eN := by
  have h1 := dv_lt (fB_dig h)
  have e : s.data.toList.length = s.size := Array.length_toList
  exact Nat.lt_of_lt_of_le h1 (Nat.pow_le_pow_right (by omega) (by rw [e]; unfold eN; omega))

theorem iD_plain {s : ByteArray} (h : iM s = false) : iD s = s := by
  unfold iM at h
  unfold iD Lib.trimPrefix
  rw [h]
  rfl

/-- The parts of a valid text that is not negative. -/
theorem parts_ok {p : ByteArray} (he : qE p = 0) (hm : ¬ iM (cW p) = true) (hl : ¬ (1000 < (cW p).size ∨ 1000 < (qD p).size)) :
    cW p = numB (bN (cW p)) ∧ qD p = numB (bN (qD p)) ∧ bN (cW p) < 10 ^ eN ∧ bN (qD p) < 10 ^ eN ∧ errN (cW p).data.toList = 0 ∧ errN (qD p).data.toList = 0 := by
  have h1 := qE_zero he
  have hm' : iM (cW p) = false := by simpa using hm
  have hW : fB (cW p) = true := by
    have := iB_form (qB_whole h1.1)
    rwa [iD_plain hm'] at this
  have hD := qB_below h1.1
  have l1 : ¬ 1000 < (cW p).size := fun h => hl (.inl h)
  have l2 : ¬ 1000 < (qD p).size := fun h => hl (.inr h)
  have s1 : (cW p).data.toList.length = (cW p).size := Array.length_toList
  have s2 : (qD p).data.toList.length = (qD p).size := Array.length_toList
  exact ⟨numB_of hW, numB_of hD, bN_lt hW l1, bN_lt hD l2, errN_ok (formB_iff.1 hW) (by omega), errN_ok (formB_iff.1 hD) (by omega)⟩
end Go.Proofs.YtpehhgkghgbhiaaGreatDoor

/- Plain words: the texts of rational numbers, as numbers. -/
namespace Go.Proofs.YtpehhgkghgbhiaaGreatDoor
open Go.RowKit
open Go.Lib (decDigits nDigits)

def noSl (l : List UInt8) : Prop := ∀ b ∈ l, b ≠ 47

theorem ix_none : ∀ {l : List UInt8}, noSl l → Lib.index l [47] = -1
  | [], _ => rfl
  | b :: l, h => by
    have h1 : b ≠ 47 := h b (List.mem_cons_self ..)
    have h2 := ix_none (l := l) (fun x hx => h x (List.mem_cons_of_mem _ hx))
    have h3 : ((47 : UInt8) == b) = false := by rw [beq_eq_false_iff_ne]; exact fun e => h1 e.symm
    simp [Lib.index, List.isPrefixOf, h2, h3]

theorem ix_at : ∀ {l r : List UInt8}, noSl l → Lib.index (l ++ 47 :: r) [47] = l.length
  | [], r, _ => by simp [Lib.index, List.isPrefixOf]
  | b :: l, r, h => by
    have h1 : b ≠ 47 := h b (List.mem_cons_self ..)
    have h2 := ix_at (l := l) (r := r) (fun x hx => h x (List.mem_cons_of_mem _ hx))
    have h3 : ((47 : UInt8) == b) = false := by rw [beq_eq_false_iff_ne]; exact fun e => h1 e.symm
    have h4 : ((l.length : Int) == -1) = false := by rw [beq_eq_false_iff_ne]; omega
    simp only [List.cons_append, Lib.index, List.isPrefixOf, h3, h2, h4, Bool.false_and]
    simp

theorem cut_none {l : List UInt8} (h : noSl l) : Lib.cut l [47] = (l, [], false) := by
  unfold Lib.cut
  rw [if_neg (by rw [ix_none h]; decide)]
theorem cut_at {l r : List UInt8} (h : noSl l) : Lib.cut (l ++ 47 :: r) [47] = (l, r, true) := by
  unfold Lib.cut
  rw [if_pos (by rw [ix_at h]; omega), ix_at h]
  simp [List.drop_append]

theorem sl_cases : ∀ s : List UInt8, noSl s ∨ ∃ A B, noSl A ∧ s = A ++ 47 :: B
  | [] => .inl (fun b h => by cases h)
  | b :: l => by
    by_cases hb : b = 47
    · exact .inr ⟨[], l, fun b h => (by cases h), by rw [hb]; rfl⟩
    · rcases sl_cases l with h | ⟨A, B, hA, e⟩
      · exact .inl (fun x hx => by
          rcases List.mem_cons.1 hx with rfl | hx
          · exact hb
          · exact h x hx)
      · exact .inr ⟨b :: A, B, fun x hx => (by
          rcases List.mem_cons.1 hx with rfl | hx
          · exact hb
          · exact hA x hx), by rw [e]; rfl⟩

theorem noSl_dig {l : List UInt8} (h : allDig l) : noSl l := fun b hb e => by
  have := isDig_iff.1 (h b hb)
  rw [e] at this
  simp at this

/-- The text of a sign, a numerator and a denominator. -/
def txB (m : Bool) (n d : Nat) : ByteArray := ⟨((if m = true then [45] else []) ++ (decDigits n ++ (if d = 1 then [] else 47 :: decDigits d))).toArray⟩
def txQ (q : Rat) : ByteArray := txB (decide (q.num < 0)) q.num.natAbs q.den

theorem ba_ext {a b : ByteArray} (h : a.data.toList = b.data.toList) : a = b := by
  apply ByteArray.ext
  exact Array.toList_inj.1 h

theorem txB_list (m : Bool) (n d : Nat) : (txB m n d).data.toList = (if m = true then [45] else []) ++ (decDigits n ++ (if d = 1 then [] else 47 :: decDigits d)) := by simp [txB]

theorem tx_head (m : Bool) (n : Nat) : noSl ((if m = true then [45] else []) ++ decDigits n) := by
  intro b hb
  rcases List.mem_append.1 hb with h | h
  · cases m <;> simp at h
    rw [h]; decide
  · exact noSl_dig (allDig_dec n) b h

theorem cut_tx (m : Bool) (n d : Nat) : Lib.cut (txB m n d).data.toList [47] = ((if m = true then [45] else []) ++ decDigits n, if d = 1 then [] else decDigits d, !decide (d = 1)) := by
  rw [txB_list, ← List.append_assoc]
  by_cases h : d = 1
  · rw [if_pos h, List.append_nil, cut_none (tx_head m n), if_pos h]
    simp [h]
  · rw [if_neg h, cut_at (tx_head m n), if_neg h]
    simp [h]

theorem cW_tx (m : Bool) (n d : Nat) : (cW (txB m n d)).data.toList = (if m = true then [45] else []) ++ decDigits n := by simp [cW, cut_tx]
theorem cB_tx (m : Bool) (n d : Nat) : (cB (txB m n d)).data.toList = if d = 1 then [] else decDigits d := by simp [cB, cut_tx]
theorem cS_tx (m : Bool) (n d : Nat) : cS (txB m n d) = !decide (d = 1) := by simp [cS, cut_tx]
theorem qD_tx (m : Bool) (n d : Nat) : qD (txB m n d) = numB d := by
  unfold qD
  rw [cS_tx]
  by_cases h : d = 1
  · rw [h]; rw [if_neg (by simp)]; unfold numB; rw [dec_one]
  · rw [if_pos (by simp [h])]
    apply ba_ext
    rw [cB_tx, if_neg h, numB_list]

theorem minus_dec (n : Nat) : List.isPrefixOf [(45 : UInt8)] (decDigits n) = false := by
  cases h : decDigits n with
  | nil => rfl
  | cons b l =>
    have := isDig_iff.1 (allDig_dec n b (by rw [h]; exact List.mem_cons_self ..))
    have h3 : ((45 : UInt8) == b) = false := by
      rw [beq_eq_false_iff_ne]
      rintro rfl
      simp at this
    simp [List.isPrefixOf, h3]

theorem iM_tx (m : Bool) (n d : Nat) : iM (cW (txB m n d)) = m := by
  unfold iM Lib.hasPrefix
  rw [cW_tx]
  cases m
  · simpa using minus_dec n
  · simp [List.isPrefixOf]
theorem iD_tx (m : Bool) (n d : Nat) : iD (cW (txB m n d)) = numB n := by
  apply ba_ext
  have h := iM_tx m n d
  unfold iM at h
  unfold iD Lib.trimPrefix
  rw [h, cW_tx, numB_list]
  cases m <;> simp

theorem bN_iD_tx (m : Bool) (n d : Nat) : bN (iD (cW (txB m n d))) = n := by rw [iD_tx, bN_num]
theorem bN_qD_tx (m : Bool) (n d : Nat) : bN (qD (txB m n d)) = d := by rw [qD_tx, bN_num]

theorem numB_ne {a b : Nat} (h : a ≠ b) : numB a ≠ numB b := fun e => h (by rw [← bN_num a, e, bN_num])
theorem numB_zero : numB 0 = ⟨#[48]⟩ := by unfold numB; rw [dec_zero]
theorem numB_one : numB 1 = ⟨#[49]⟩ := by unfold numB; rw [dec_one]
theorem fB_num (n : Nat) : fB (numB n) = true := by unfold fB; rw [numB_list]; exact formB_dec n

/-- The text of a reduced fraction is valid. -/
theorem qE_tx {m : Bool} {n d : Nat} (hg : Nat.gcd n d = 1) (hd : 0 < d) (hm : m = true → n ≠ 0) (h1 : nDigits n ≤ 4000) (h2 : nDigits d ≤ 4000) : qE (txB m n d) = 0 := by
  refine qE_ok ?_ ?_ ?_
  · unfold qB iB
    rw [iD_tx, iM_tx, cS_tx, fB_num]
    have e1 : (m && decide (numB n = ⟨#[48]⟩)) = false := by
      cases m
      · rfl
      · rw [← numB_zero]; simpa using numB_ne (hm rfl)
    rw [e1]
    by_cases h : d = 1
    · simp [h]
    · have e2 : cB (txB m n d) = numB d := by
        apply ba_ext
        rw [cB_tx, if_neg h, numB_list]
      have hn : n ≠ 0 := fun e => by rw [e, Nat.gcd_zero_left] at hg; exact h hg
      rw [e2, fB_num, ← numB_zero, ← numB_one]
      have q1 := numB_ne hn
      have q2 := numB_ne (show d ≠ 0 by omega)
      have q3 := numB_ne h
      simp [q1, q2, q3]
  · unfold qL
    rw [iD_tx, qD_tx, numB_size, numB_size]
    simp
    omega
  · unfold qG
    rw [bN_iD_tx, bN_qD_tx]
    simp [hg]

/-- The number of a text. -/
def vQ (s : ByteArray) : Rat := qmk (iM (cW s)) (bN (iD (cW s))) (bN (qD s))

theorem formZ {s : ByteArray} (h : fB s = true) (h0 : s ≠ ⟨#[48]⟩) : 0 < bN s := by
  rcases Nat.eq_zero_or_pos (bN s) with e | e
  · have := numB_of h
    rw [e, numB_zero] at this
    exact absurd this h0
  · exact e

/-- The parts of a valid text. -/
theorem valid {s : ByteArray} (h : qE s = 0) : Nat.gcd (bN (iD (cW s))) (bN (qD s)) = 1 ∧ 0 < bN (qD s) ∧ (iM (cW s) = true → bN (iD (cW s)) ≠ 0) ∧ nDigits (bN (iD (cW s))) ≤ 4000 ∧ nDigits (bN (qD s)) ≤ 4000 ∧ s = txB (iM (cW s)) (bN (iD (cW s))) (bN (qD s)) := by
  obtain ⟨h1, h2, h3⟩ := qE_zero h
  have hW := iB_form (qB_whole h1)
  have hD := qB_below h1
  have eW := numB_of hW
  have eD := numB_of hD
  have hm : iM (cW s) = true → bN (iD (cW s)) ≠ 0 := by
    intro hm e
    have h4 := qB_whole h1
    unfold iB at h4
    rw [e, numB_zero] at eW
    rw [hm, eW] at h4
    simp at h4
  unfold qL at h2
  simp only [Bool.or_eq_false_iff, decide_eq_false_iff_not] at h2
  have l1 : nDigits (bN (iD (cW s))) ≤ 4000 := by
    have := h2.1
    rw [eW, numB_size] at this
    rw [eW, bN_num] at *
    omega
  have l2 : nDigits (bN (qD s)) ≤ 4000 := by
    have := h2.2
    rw [eD, numB_size] at this
    rw [eD, bN_num] at *
    omega
  have es : (cW s).data.toList = (if iM (cW s) = true then [45] else []) ++ decDigits (bN (iD (cW s))) := by
    have e : (iD (cW s)).data.toList = decDigits (bN (iD (cW s))) := by rw [eW, bN_num, numB_list]
    rw [← e]
    unfold iD Lib.trimPrefix
    cases hm2 : Lib.hasPrefix (cW s).data.toList [45]
    · have : iM (cW s) = false := hm2
      rw [this]
      simp
    · have : iM (cW s) = true := hm2
      rw [this]
      have hp : List.isPrefixOf [45] (cW s).data.toList = true := hm2
      obtain ⟨t, ht⟩ := List.isPrefixOf_iff_prefix.1 hp
      rw [← ht]
      simp
  refine ⟨?_, ?_, hm, l1, l2, ?_⟩
  · unfold qG at h3
    cases hS : cS s
    · have : qD s = numB 1 := by unfold qD; rw [hS, numB_one]; rfl
      rw [this, bN_num, Nat.gcd_one_right]
    · rw [hS] at h3
      simpa using h3
  · cases hS : cS s
    · have : qD s = numB 1 := by unfold qD; rw [hS, numB_one]; rfl
      rw [this, bN_num]; omega
    · unfold qB at h1
      rw [hS] at h1
      simp only [Bool.and_eq_true, Bool.or_eq_true, Bool.not_true, Bool.false_eq_true, false_or, decide_eq_true_eq] at h1
      have : qD s = cB s := by unfold qD; rw [if_pos hS]
      rw [this]
      exact formZ h1.2.1.1.2 h1.2.1.2
  · apply ba_ext
    rw [txB_list]
    rcases sl_cases s.data.toList with h4 | ⟨A, B, hA, e⟩
    · have hc := cut_none h4
      have hS : cS s = false := by unfold cS; rw [hc]
      have hq : bN (qD s) = 1 := by
        have : qD s = numB 1 := by unfold qD; rw [hS, numB_one]; rfl
        rw [this, bN_num]
      rw [hq, if_pos rfl, List.append_nil]
      have e1 : (cW s).data.toList = s.data.toList := by unfold cW; rw [hc]
      rw [← es, e1]
    · have hc := cut_at (r := B) hA
      rw [← e] at hc
      have hS : cS s = true := by unfold cS; rw [hc]
      have hB : qD s = cB s := by unfold qD; rw [if_pos hS]
      have e1 : (cW s).data.toList = A := by unfold cW; rw [hc]
      have e2 : (cB s).data.toList = B := by unfold cB; rw [hc]
      have e3 : B = decDigits (bN (qD s)) := by rw [← e2, ← hB, eD, bN_num, numB_list]
      have hne : bN (qD s) ≠ 1 := by
        intro hb
        unfold qB at h1
        rw [hS] at h1
        simp only [Bool.and_eq_true, Bool.or_eq_true, Bool.not_true, Bool.false_eq_true, false_or, decide_eq_true_eq] at h1
        refine h1.2.2 ?_
        rw [← hB, eD, hb, numB_one]
      rw [if_neg hne, ← e3, e, ← List.append_assoc, ← es, e1]

theorem qmk_ok {m : Bool} {n d : Nat} (hg : Nat.gcd n d = 1) (hd : 0 < d) (hm : m = true → n ≠ 0) : decide ((qmk m n d).num < 0) = m ∧ (qmk m n d).num.natAbs = n ∧ (qmk m n d).den = d := by
  have e1 := qmk_num (m := m) (n := n) hd
  have e2 := qmk_den (m := m) (n := n) hd
  rw [hg, Nat.div_one] at e1 e2
  refine ⟨?_, by rw [e1, sgn_natAbs], e2⟩
  rw [e1]
  rcases Nat.eq_zero_or_pos n with rfl | hn
  · cases m
    · rw [sgn_zero]; rfl
    · exact absurd rfl (hm rfl)
  · exact sgn_neg hn

/-- A valid text is the text of its number. -/
theorem vQ_ok {s : ByteArray} (h : qE s = 0) : decide ((vQ s).num < 0) = iM (cW s) ∧ (vQ s).num.natAbs = bN (iD (cW s)) ∧ (vQ s).den = bN (qD s) := by
  obtain ⟨h1, h2, h3, -⟩ := valid h
  exact qmk_ok h1 h2 h3
theorem vQ_text {s : ByteArray} (h : qE s = 0) : s = txQ (vQ s) := by
  obtain ⟨e1, e2, e3⟩ := vQ_ok h
  unfold txQ
  rw [e1, e2, e3]
  exact (valid h).2.2.2.2.2

/-- Whether a number's text would be too long. -/
def ovQ (q : Rat) : Prop := 4000 < nDigits q.num.natAbs ∨ 4000 < nDigits q.den
instance (q : Rat) : Decidable (ovQ q) := by unfold ovQ; infer_instance

theorem vQ_fits {s : ByteArray} (h : qE s = 0) : ¬ ovQ (vQ s) := by
  obtain ⟨e1, e2, e3⟩ := vQ_ok h
  obtain ⟨-, -, -, l1, l2, -⟩ := valid h
  unfold ovQ
  rw [e2, e3]
  omega

theorem gcd_q (q : Rat) : Nat.gcd q.num.natAbs q.den = 1 := q.reduced
theorem neg_q (q : Rat) : decide (q.num < 0) = true → q.num.natAbs ≠ 0 := by
  intro h
  have := of_decide_eq_true h
  omega
theorem qE_txQ {q : Rat} (h : ¬ ovQ q) : qE (txQ q) = 0 := by
  unfold ovQ at h
  exact qE_tx (gcd_q q) q.den_pos (neg_q q) (by omega) (by omega)
theorem vQ_txQ (q : Rat) : vQ (txQ q) = q := by
  unfold vQ txQ
  rw [iM_tx, bN_iD_tx, bN_qD_tx, qmk_self]

/-- The text and the error of a result. -/
def outB (q : Rat) : ByteArray := if ovQ q then ⟨#[]⟩ else txQ q
def outE (q : Rat) : Int := if ovQ q then 5 else 0

/-- An operation on one text, on two. -/
def op1B (f : Rat → Rat) (s : ByteArray) : ByteArray := if qE s = 0 then outB (f (vQ s)) else ⟨#[]⟩
def op1E (f : Rat → Rat) (s : ByteArray) : Int := if qE s = 0 then outE (f (vQ s)) else qE s
def op2B (f : Rat → Rat → Rat) (s t : ByteArray) : ByteArray := if qE s = 0 ∧ qE t = 0 then outB (f (vQ s) (vQ t)) else ⟨#[]⟩
def op2E (f : Rat → Rat → Rat) (s t : ByteArray) : Int := if qE s = 0 then (if qE t = 0 then outE (f (vQ s) (vQ t)) else qE t) else qE s
end Go.Proofs.YtpehhgkghgbhiaaGreatDoor

/- Walks: pick.draw, for any function that is handed over. -/
namespace Go.Proofs.YtpehhgkghgbhiaaGreatDoor
open Go.RowKit Go.Shelf
open Go.Lib (decDigits nDigits)
set_option linter.unusedVariables false
set_option linter.unusedSimpArgs false

/-- A function that says whether a cell decides a value, in every later world. -/
def DecOk (F : Nat) (cs : Array Value) (f : Nat → Nat → Nat × Bool) (w : World) : Prop :=
  ∀ (W : World) (k u : Nat), Below w.heap.size w W → k < 2 ^ u → u ≤ 256 →
    Calls Tryz.prog F (#[.string (numB k), .string (numB (2 ^ u))] ++ cs) W fun e w' => e = .returned (.tuple #[.int .i64 ((f k (2 ^ u)).1 : Nat), .bool (f k (2 ^ u)).2]) ∧ Below W.heap.size W w'

/-- What the rounds of draw keep. -/
structure PdI (f : Nat → Nat → Nat × Bool) (L : List UInt8) (k u : Nat) : Prop where
  le : u ≤ L.length
  lt : k < 2 ^ u
  eq : pdAt f L k (2 ^ u) u = pdr f 0 1 L
theorem PdI.start (f : Nat → Nat → Nat × Bool) (L : List UInt8) : PdI f L 0 0 := ⟨Nat.zero_le _, by decide, pdAt_start f L⟩
theorem PdI.next {f : Nat → Nat → Nat × Bool} {L : List UInt8} {k u : Nat} (h : PdI f L k u) (hn : (f k (2 ^ u)).2 = false) (hu : u < L.length) : PdI f L (k + k + (if L[u] = 49 then 1 else 0)) (u + 1) := by
  refine ⟨hu, ?_, ?_⟩
  · have := h.lt
    rw [Nat.pow_succ]; split <;> omega
  · rw [← h.eq, pdAt_next hn hu, Nat.pow_succ, Nat.mul_two]
theorem PdI.done {f : Nat → Nat → Nat × Bool} {L : List UInt8} {k u : Nat} (h : PdI f L k u) (hn : (f k (2 ^ u)).2 = true) : pdr f 0 1 L = (true, (f k (2 ^ u)).1, u) := by
  rw [← h.eq, pdAt_done hn]
theorem PdI.late {f : Nat → Nat → Nat × Bool} {L : List UInt8} {k u : Nat} (h : PdI f L k u) (hn : (f k (2 ^ u)).2 = false) (hu : u = L.length) : pdr f 0 1 L = (false, 0, L.length) := by
  subst hu
  rw [← h.eq, pdAt_late hn]

def dw3 (x : Bool × Nat × Nat) : Value := .agg #[.bool x.1, .int .i64 (x.2.1 : Nat), .int .i64 (x.2.2 : Nat)]

theorem two_nd {u : Nat} (h : u ≤ 300) : nDigits (2 ^ u) ≤ 100 := by
  refine nDigits_le (by omega) (Nat.lt_of_le_of_lt (Nat.pow_le_pow_right (by omega) h) ?_)
  decide +kernel

set_option maxRecDepth 100000 in
set_option maxHeartbeats 2000000 in
theorem p_draw (w : World) (b : ByteArray) (F : Nat) (cs : Array Value) (f : Nat → Nat → Nat × Bool) (hb : b.size ≤ 256) (hen : ∀ args w, (callFunc F args).run Tryz.prog w = .ok (.enter F args) w) (hF : DecOk F cs f w) (hL : Lay w) :
    Calls Tryz.prog 89 #[.string b, .func (.func F) #[] cs] w fun e w' => e = .returned (dw3 (pdr f 0 1 b.data.toList)) ∧ Below w.heap.size w w' := by
  have HF := fun W k u hb h1 h2 => hid (hF W k u hb h1 h2)
  have hPl := fun W a b h1 h2 h3 hW => hid (pk_plus W a b h1 h2 h3 hW)
  obtain ⟨L, hLL⟩ : ∃ L, b.data.toList = L := ⟨_, rfl⟩
  have hlen := hid (show L.length = b.size from by rw [← hLL]; simp)
  have hget := hid (fun (i : Nat) (h : i < b.size) => show L[i]? = some b[i] from by rw [← hLL]; exact byte_get h)
  rw [hLL]
  have HL := hid hL; have HB := hid hb
  clear hF hL hLL
  have e0 : (⟨#[48]⟩ : ByteArray) = numB 0 := numB_zero.symm
  have e1 : (⟨#[49]⟩ : ByteArray) = numB 1 := numB_one.symm
  have x0 := hid (Blk.new w #[.bool false, .int .i64 0, .int .i64 0] 48)
  have b0 := hid ((Below.refl w.heap.size w).alloc (Nat.le_refl _) (.cells #[.bool false, .int .i64 0, .int .i64 0] 48))
  have E0 := hid e0; have E1 := hid e1
  clear e0 e1
  go_enter Tryz.func89, Tryz.ntmps89
  go_wp2_with fail
  go_loopw [5, 6, 7] (fun kk tt uu wr => ∃ k u : Nat, kk = .string (numB k) ∧ tt = .string (numB (2 ^ u)) ∧ uu = .int .i64 u ∧ u ≤ b.size ∧ Hid (PdI f L k u) ∧ Hid (Blk wr w.heap.size #[.bool false, .int .i64 0, .int .i64 0] 48) ∧ Hid (Below w.heap.size w wr)) (fun kk tt uu wr => b.size - (intOf uu).toNat)
  case atStart => exact ⟨0, 0, by rw [← E0.out], by rw [Nat.pow_zero, ← E1.out], rfl, Nat.zero_le _, PdI.start f L, x0, b0⟩
  case round =>
    obtain ⟨k, u, rfl, rfl, rfl, hu, hI, k0, hB⟩ := hrel
    have HD := HF wr k u hB.out hI.out.lt (by have := HB.out; omega)
    obtain ⟨vv, hvv⟩ : ∃ x, (f k (2 ^ u)).1 = x := ⟨_, rfl⟩
    obtain ⟨bb, hbb⟩ : ∃ x, (f k (2 ^ u)).2 = x := ⟨_, rfl⟩
    rw [hvv, hbb] at HD
    have HVV := hid hvv; have HBB := hid hbb
    have hk1 := nDigits_mono (Nat.le_of_lt hI.out.lt)
    have hk2 := two_nd (u := u) (by have := HB.out; omega)
    have hk3 := two_nd (u := u + 1) (by have := HB.out; omega)
    have P1 := hPl
    clear hvv hbb
    obtain ⟨K, hK⟩ : ∃ x, numB k = x := ⟨_, rfl⟩
    obtain ⟨T, hT⟩ : ∃ x, numB (2 ^ u) = x := ⟨_, rfl⟩
    have HK := hid hK; have HT := hid hT
    have ND := hid (And.intro hk1 (And.intro hk2 hk3))
    rw [hK, hT] at HD ⊢
    clear hK hT hk1 hk2 hk3 P1
    go_wp2_with fail
    refine HD.out.mono ?_; rintro e w1 ⟨rfl, hb1⟩
    have y1 := hid (bnext hB.out hb1); have k1 := hid (k0.out.call hb1)
    clear hb1
    cases bb
    · by_cases hlt : u = b.size
      · have q0 : ((u : Int) == (b.size : Int)) = true := by rw [hlt]; simp
        have LT := hid (hI.out.late HBB.out (by rw [hlen.out]; exact hlt))
        have r0 := k1.out.cell 0
        have r1 := k1.out.cell 1
        have r2 := k1.out.cell 2
        have f0 := k1.out.free 0
        have f1 := k1.out.free 1
        have f2 := k1.out.free 2
        simp at r0 r1 r2
        have hub := hid hlt
        clear hlt
        go_wp2_with fail
        have s3 := ((k1.out.set 0 (.bool false)).set 1 (.int .i64 0)).set 2 (.int .i64 (u : Nat))
        have z0 := s3.cell 0
        have z1 := s3.cell 1
        have z2 := s3.cell 2
        simp at z0 z1 z2
        refine bodyPost_ret (v := .agg #[.bool false, .int .i64 0, .int .i64 (u : Nat)]) (by simp [results, Tryz.results89, go_sem, z0, z1, z2]) rfl ⟨by rw [LT.out, hlen.out, hub.out]; rfl, ?_⟩
        exact ((y1.out.setCell (Nat.le_refl _) _).setCell (Nat.le_refl _) _).setCell (Nat.le_refl _) _
      · have q0 : ((u : Int) == (b.size : Int)) = false := by rw [beq_eq_false_iff_ne]; omega
        have hub : u < b.size := by omega
        have NX := hid (hI.out.next HBB.out (by rw [hlen.out]; exact hub))
        have hg := hget.out u hub
        have hgl : L[u]'(by rw [hlen.out]; exact hub) = b[u] := by
          have := List.getElem?_eq_getElem (l := L) (i := u) (by rw [hlen.out]; exact hub)
          rw [hg] at this
          exact (Option.some.inj this).symm
        have HN2 := hid (show 2 ^ u + 2 ^ u = 2 ^ (u + 1) from by rw [Nat.pow_succ]; omega)
        have klt := hid hI.out.lt
        rw [hgl] at NX
        have R1 := fun W hW => hPl W k k (by have := ND.out; omega) (by have := ND.out; omega) (by
          have h1 := nDigits_mono (show k + k ≤ 2 ^ (u + 1) by rw [← HN2.out]; have := klt.out; omega)
          have := ND.out; omega) hW
        have R2 := fun W hW => hPl W (2 ^ u) (2 ^ u) (by have := ND.out; omega) (by have := ND.out; omega) (by rw [HN2.out]; have := ND.out; omega) hW
        have R3 := fun W hW => hPl W (k + k) 1 (by
          have h1 := nDigits_mono (show k + k ≤ 2 ^ (u + 1) by rw [← HN2.out]; have := klt.out; omega)
          have := ND.out; omega) (by rw [nDigits_one]; omega) (by
          have h1 := nDigits_mono (show k + k + 1 ≤ 2 ^ (u + 1) by rw [← HN2.out]; have := klt.out; omega)
          have := ND.out; omega) hW
        rw [HK.out] at R1
        rw [HT.out, HN2.out] at R2
        rw [← E1.out] at R3
        clear hlt hg hgl
        by_cases h1 : b[u] = 49
        · have q1 : ((b[u].toNat : Int) == 49) = true := by rw [h1]; rfl
          rw [if_pos h1] at NX
          clear h1
          go_wp2_with fail
          refine (R1 _ (HL.out.call y1.out)).out.mono ?_; rintro e w2 ⟨rfl, hb2⟩
          have y2 := hid (bnext y1.out hb2); have k2 := hid (k1.out.call hb2)
          clear hb2
          go_wp2_with fail
          refine (R2 _ (HL.out.call y2.out)).out.mono ?_; rintro e w3 ⟨rfl, hb3⟩
          have y3 := hid (bnext y2.out hb3); have k3 := hid (k2.out.call hb3)
          clear hb3
          go_wp2_with fail
          refine (R3 _ (HL.out.call y3.out)).out.mono ?_; rintro e w4 ⟨rfl, hb4⟩
          have y4 := hid (bnext y3.out hb4); have k4 := hid (k3.out.call hb4)
          clear hb4
          go_wp2_with fail
          go_roundw
          case rel => exact ⟨_, u + 1, rfl, rfl, by go_num, by omega, NX, k4, y4⟩
          case measure => simp [intOf] <;> omega
        · have q1 : ((b[u].toNat : Int) == 49) = false := by
            rw [beq_eq_false_iff_ne]
            intro e
            refine h1 ?_
            have : b[u].toNat = (49 : UInt8).toNat := by simp; omega
            exact UInt8.toNat_inj.1 this
          rw [if_neg h1] at NX
          clear h1
          go_wp2_with fail
          refine (R1 _ (HL.out.call y1.out)).out.mono ?_; rintro e w2 ⟨rfl, hb2⟩
          have y2 := hid (bnext y1.out hb2); have k2 := hid (k1.out.call hb2)
          clear hb2
          go_wp2_with fail
          refine (R2 _ (HL.out.call y2.out)).out.mono ?_; rintro e w3 ⟨rfl, hb3⟩
          have y3 := hid (bnext y2.out hb3); have k3 := hid (k2.out.call hb3)
          clear hb3
          go_wp2_with fail
          go_roundw
          case rel => exact ⟨_, u + 1, rfl, rfl, by go_num, by omega, NX, k3, y3⟩
          case measure => simp [intOf] <;> omega
    · have DN := hid (hI.out.done HBB.out)
      rw [HVV.out] at DN
      have r0 := k1.out.cell 0
      have r1 := k1.out.cell 1
      have r2 := k1.out.cell 2
      have f0 := k1.out.free 0
      have f1 := k1.out.free 1
      have f2 := k1.out.free 2
      simp at r0 r1 r2
      go_wp2_with fail
      have s3 := ((k1.out.set 0 (.bool true)).set 1 (.int .i64 (vv : Nat))).set 2 (.int .i64 (u : Nat))
      have z0 := s3.cell 0
      have z1 := s3.cell 1
      have z2 := s3.cell 2
      simp at z0 z1 z2
      refine bodyPost_ret (v := .agg #[.bool true, .int .i64 (vv : Nat), .int .i64 (u : Nat)]) (by simp [results, Tryz.results89, go_sem, z0, z1, z2]) rfl ⟨by rw [DN.out]; rfl, ?_⟩
      exact ((y1.out.setCell (Nat.le_refl _) _).setCell (Nat.le_refl _) _).setCell (Nat.le_refl _) _
end Go.Proofs.YtpehhgkghgbhiaaGreatDoor
