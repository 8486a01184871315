/- Texts that the proof rests on, merged: So8, Sh3, So9, Rt2, Flo, Rd0, So14, Sh5, AtW. -/
import Derived.Test.YtlimaehdmcnjaaaGreatDoorMf8
import Derived.Shelf.Bits.Mul64
import Derived.Ground.NamesProg
import Derived.Test.YtlimaehdmcnjaaaGreatDoorProg
import Derived.Laws.CopyOwn
import Derived.Shelf.Strconv.Atoi
import Derived.Lib.SmallJoins
set_option linter.unusedVariables false
set_option linter.unusedSimpArgs false
set_option linter.unusedSectionVars false
set_option maxRecDepth 100000
set_option maxHeartbeats 8000000
namespace Go.Proofs.YtlimaehdmcnjaaaGreatDoor
open Go.RowKit
open Go.Shelf
open Go.Lib (decDigits nDigits)
structure BC (W : World) (c : List Value) (b : Rat × Nat) : Prop where
 ex : ∃ (m : Bool) (a : Option Addr) (n p : Nat) (a' : Option Addr) (n' p' : Nat), c = [.bool m, .slice a n p, .slice a' n' p', .int .i64 (b.2 : Nat)] ∧ IsQ .u64 W (.agg #[.bool m, .slice a n p, .slice a' n' p']) b.1
theorem BC.keep {W W' : World} {c : List Value} {b : Rat × Nat} (h : BC W c b) (hk : KeepK .u64 W W') : BC W' c b := by
 obtain ⟨m, a, n, p, a', n', p', rfl, h1⟩ := h.ex
 exact ⟨m, a, n, p, a', n', p', rfl, hk.isQ h1⟩
structure BRow (B : Nat) (W : World) (v : Value) (bs : List (Rat × Nat)) : Prop where
 ex : ∃ cs, KRow .u64 73 4 B W v cs ∧ cs.length = bs.length ∧ ∀ (i : Nat) (b : Rat × Nat), bs[i]? = some b → ∃ c, cs[i]? = some c ∧ BC W c b
theorem BRow.nil (B : Nat) (W : World) : BRow B W (.slice none 0 0) [] := ⟨[], KRow.nil _ _ _ _ _, rfl, fun i b h => by simp at h⟩
theorem BRow.call {B : Nat} {W W' : World} {v : Value} {bs : List (Rat × Nat)} (h : BRow B W v bs) (hb : Below W.heap.size W W') : BRow B W' v bs := by
 obtain ⟨cs, h1, h2, h3⟩ := h.ex
 refine ⟨cs, h1.call hb, h2, fun i b hi => ?_⟩
 obtain ⟨c, h4, h5⟩ := h3 i b hi
 exact ⟨c, h4, h5.keep (KeepK.below hb)⟩
theorem BRow.slice {B : Nat} {W : World} {v : Value} {bs : List (Rat × Nat)} (h : BRow B W v bs) : ∃ a c, v = .slice a bs.length c ∧ bs.length ≤ c ∧ c ≤ 9223372036854775807 := by
 obtain ⟨cs, h1, h2, h3⟩ := h.ex
 rw [← h2]
 exact h1.ex
theorem BRow.nz {B n : Nat} {W : World} {v : Value} {bs : List (Rat × Nat)} (h : BRow B W v bs) (hn : bs.length = n) (h0 : 0 < n) : ∃ g c, v = .slice (some ⟨g, 0, none⟩) n c ∧ B ≤ g ∧ g < W.heap.size ∧ n ≤ c ∧ c ≤ 9223372036854775807 ∧ ∀ j, W.frozen? ⟨g, j, none⟩ = false := by
 obtain ⟨cs, h1, h2, h3⟩ := h.ex
 obtain ⟨c, hc⟩ : ∃ c, cs[0]? = Option.some c := ⟨_, List.getElem?_eq_getElem (show 0 < cs.length by omega)⟩
 obtain ⟨g, cap, e, q1, q2, q3, q4, q5⟩ := h1.block hc (by omega)
 rw [h2, hn] at e
 exact ⟨g, cap, e, q3, q4, by rw [h2, hn] at q1; exact q1, q2, q5⟩
theorem BRow.at {B g n c : Nat} {W : World} {bs : List (Rat × Nat)} (h : BRow B W (.slice (Option.some ⟨g, 0, none⟩) n c) bs) {i : Nat} {b : Rat × Nat} (hb : bs[i]? = Option.some b) :
 ∃ (m : Bool) (a1 : Option Addr) (n1 c1 : Nat) (a2 : Option Addr) (n2 c2 : Nat), B ≤ g ∧ g < W.heap.size ∧ W.cell? ⟨g, i * 4, none⟩ = Option.some (.bool m) ∧ W.cell? ⟨g, i * 4 + 1, none⟩ = Option.some (.slice a1 n1 c1) ∧ W.cell? ⟨g, i * 4 + 2, none⟩ = Option.some (.slice a2 n2 c2) ∧ W.cell? ⟨g, i * 4 + 3, none⟩ = Option.some (.int .i64 (b.2 : Nat)) ∧ IsQ .u64 W (.agg #[.bool m, .slice a1 n1 c1, .slice a2 n2 c2]) b.1 := by
 obtain ⟨cs, h1, h2, h3⟩ := h.ex
 obtain ⟨d, hd, hc⟩ := h3 i b hb
 obtain ⟨m, a1, n1, c1, a2, n2, c2, rfl, hQ⟩ := hc.ex
 obtain ⟨g', cap, e, -, -, hB, hg, -⟩ := h1.block hd (by omega)
 injection e with e1 e2 e3
 injection e1 with e1
 injection e1 with e1
 subst e1
 exact ⟨m, a1, n1, c1, a2, n2, c2, hB, hg, h1.cell hd (j := 0) rfl, h1.cell hd (j := 1) rfl, h1.cell hd (j := 2) rfl, h1.cell hd (j := 3) rfl, hQ⟩
theorem BRow.free {B g n c : Nat} {W : World} {bs : List (Rat × Nat)} (h : BRow B W (.slice (Option.some ⟨g, 0, none⟩) n c) bs) (j : Nat) : W.frozen? ⟨g, j, none⟩ = false := by
 obtain ⟨cs, h1, -⟩ := h.ex
 exact h1.free j
theorem BRow.blk {B g n c : Nat} {W : World} {bs : List (Rat × Nat)} (h : BRow B W (.slice (Option.some ⟨g, 0, none⟩) n c) bs) : ∃ cur, Blk W g cur 73 := by
 obtain ⟨cs, h1, -⟩ := h.ex
 obtain ⟨cur, h2, -⟩ := h1.nok g rfl
 exact ⟨cur, h2⟩
theorem cell_set3 {W : World} {g : Nat} {cs : Array Value} {t : TypeId} (hB : Blk W g cs t) (o : Nat) (x y z : Value) (h j : Nat) (hh : h ≠ g ∨ (j ≠ o ∧ j ≠ o + 1 ∧ j ≠ o + 2)) : (((W.setCell ⟨g, o, none⟩ x).setCell ⟨g, o + 1, none⟩ y).setCell ⟨g, o + 2, none⟩ z).cell? ⟨h, j, none⟩ = W.cell? ⟨h, j, none⟩ := by
 by_cases e : h = g
 ·subst e
  obtain ⟨h1, h2, h3⟩ := hh.resolve_left (fun h => h rfl)
  have b1 := hB.set o x
  have b2 := b1.set (o + 1) y
  have b3 := b2.set (o + 2) z
  rw [b3.cell, hB.cell, Array.getElem?_setIfInBounds_ne (by omega), Array.getElem?_setIfInBounds_ne (by omega), Array.getElem?_setIfInBounds_ne (by omega)]
 ·unfold World.cell?
  rw [Below.heap_setCell _ _ _ _ e, Below.heap_setCell _ _ _ _ e, Below.heap_setCell _ _ _ _ e]
theorem grown_one (W : World) (g j : Nat) (u : Value) : W.grownBy (W.setCell ⟨g, j, none⟩ u) (Option.some g) := ⟨rfl, rfl, rfl, by simp [World.setCell], fun k hk hne => Below.heap_setCell _ _ _ _ (fun e => hne (by rw [e]))⟩
theorem BRow.put {B g n c : Nat} {W : World} {bs : List (Rat × Nat)} (h : BRow B W (.slice (Option.some ⟨g, 0, none⟩) n c) bs) {i : Nat} (hi : i < bs.length) {m : Bool} {a1 a2 : Option Addr} {n1 c1 n2 c2 k : Nat} {q : Rat} (hq : IsQ .u64 W (.agg #[.bool m, .slice a1 n1 c1, .slice a2 n2 c2]) q) :
 BRow B ((((W.setCell ⟨g, i * 4, none⟩ (.bool m)).setCell ⟨g, i * 4 + 1, none⟩ (.slice a1 n1 c1)).setCell ⟨g, i * 4 + 2, none⟩ (.slice a2 n2 c2)).setCell ⟨g, i * 4 + 3, none⟩ (.int .i64 (k : Nat))) (.slice (Option.some ⟨g, 0, none⟩) n c) (bs.set i (q, k)) ∧
 KeepK .u64 W ((((W.setCell ⟨g, i * 4, none⟩ (.bool m)).setCell ⟨g, i * 4 + 1, none⟩ (.slice a1 n1 c1)).setCell ⟨g, i * 4 + 2, none⟩ (.slice a2 n2 c2)).setCell ⟨g, i * 4 + 3, none⟩ (.int .i64 (k : Nat))) := by
 obtain ⟨cs, h1, h2, h3⟩ := h.ex
 have hl : i < cs.length := by rw [h2]; exact hi
 obtain ⟨d, hd⟩ : ∃ d, cs[i]? = Option.some d := ⟨_, List.getElem?_eq_getElem hl⟩
 have hd4 := h1.all d (List.mem_of_getElem? hd)
 obtain ⟨x, y, z, t, rfl⟩ : ∃ x y z t, d = [x, y, z, t] := by
  match d, hd4 with
  | [x, y, z, t], _ => exact ⟨x, y, z, t, rfl⟩
 have s1 := h1.set hd (j := 0) (by omega) (u := .bool m) (fun x e => by cases e)
 have e1 : (cs.set i ([x, y, z, t].set 0 (.bool m)))[i]? = Option.some [.bool m, y, z, t] := by rw [List.getElem?_set_self hl]; rfl
 have s2 := s1.set e1 (j := 1) (by omega) (u := .slice a1 n1 c1) (fun x e => by cases e)
 rw [List.set_set] at s2
 have e2 : (cs.set i ([.bool m, y, z, t].set 1 (.slice a1 n1 c1)))[i]? = Option.some [.bool m, .slice a1 n1 c1, z, t] := by rw [List.getElem?_set_self hl]; rfl
 have s3 := s2.set e2 (j := 2) (by omega) (u := .slice a2 n2 c2) (fun x e => by cases e)
 rw [List.set_set] at s3
 have e3 : (cs.set i ([.bool m, .slice a1 n1 c1, z, t].set 2 (.slice a2 n2 c2)))[i]? = Option.some [.bool m, .slice a1 n1 c1, .slice a2 n2 c2, t] := by rw [List.getElem?_set_self hl]; rfl
 have s4 := s3.set e3 (j := 3) (by omega) (u := .int .i64 (k : Nat)) (fun x e => by cases e)
 rw [List.set_set] at s4
 have kk := (((h1.keepSet (i * 4) (.bool m)).trans (s1.keepSet (i * 4 + 1) (.slice a1 n1 c1))).trans (s2.keepSet (i * 4 + 2) (.slice a2 n2 c2))).trans (s3.keepSet (i * 4 + 3) (.int .i64 (k : Nat)))
 refine ⟨⟨_, s4, by simp [h2], fun j b hj => ?_⟩, kk⟩
 by_cases e : i = j
 ·subst e
  rw [List.getElem?_set_self hi] at hj
  obtain rfl := Option.some.inj hj
  exact ⟨_, List.getElem?_set_self hl, ⟨m, a1, n1, c1, a2, n2, c2, rfl, kk.isQ hq⟩⟩
 ·rw [List.getElem?_set_ne e] at hj ⊢
  obtain ⟨c', h4, h5⟩ := h3 j b hj
  exact ⟨c', h4, h5.keep kk⟩
theorem BRow.cut {B g n c : Nat} {W : World} {bs : List (Rat × Nat)} (h : BRow B W (.slice (Option.some ⟨g, 0, none⟩) n c) bs) {m : Nat} (hm : m ≤ bs.length) : BRow B W (.slice (Option.some ⟨g, 0, none⟩) m c) (bs.take m) := by
 obtain ⟨cs, h1, h2, h3⟩ := h.ex
 have hlen : (cs.take m).length = m := by rw [List.length_take]; omega
 have hfl : ∀ (l : List (List Value)) (k : Nat), (∀ d ∈ l, d.length = 4) → (l.take k).flatten = l.flatten.take (k * 4) := by
  intro l
  induction l with
  | nil => intro k _; simp
  | cons d l ih =>
   intro k hd
   have h4 : d.length = 4 := hd d (by simp)
   cases k with
   | zero => simp
   | succ k =>
    rw [List.take_succ_cons, List.flatten_cons, List.flatten_cons, ih k fun x hx => hd x (by simp [hx]), List.take_append, show d.take ((k + 1) * 4) = d from List.take_of_length_le (by omega), show (k + 1) * 4 - d.length = k * 4 by omega]
 refine ⟨cs.take m, ⟨⟨?_, ?_⟩, fun d hd => h1.all d (List.mem_of_mem_take hd), h1.nok⟩, by rw [List.length_take, List.length_take, h2], fun i b hi => ?_⟩
 ·rw [hfl cs m h1.all, List.length_take, h1.own.1, hlen]; omega
 ·rcases h1.own.2 with ⟨e1, _⟩ | ⟨g', cap, cur, e1, hb, hg, q1, q2, q3, q4⟩
  ·simp at e1
  ·simp at e1
   obtain ⟨rfl, e2, rfl⟩ := e1
   refine .inr ⟨g, c, cur, by rw [hlen], hb, hg, by omega, q2, q3, ?_⟩
   rw [hlen, hfl cs m h1.all, ← q4, List.take_take, Nat.min_eq_left (by omega)]
 ·rw [List.getElem?_take] at hi ⊢
  split at hi
  ·rename_i hlt
   rw [if_pos hlt]
   exact h3 i b hi
  ·cases hi
theorem s_mean (w : World) (m : Bool) (a1 : Option Addr) (n1 c1 : Nat) (a2 : Option Addr) (n2 c2 : Nat) (q : Rat) (k : Nat) (hq : IsQ .u64 w (.agg #[.bool m, .slice a1 n1 c1, .slice a2 n2 c2]) q) (hk : 0 < k) (hk2 : k ≤ 64) (hl : Lim q) :
 Calls Tryz.prog 52 #[.agg #[.bool m, .slice a1 n1 c1, .slice a2 n2 c2, .int .i64 (k : Nat)]] w fun e w' => RetQ .u64 (bm (q, k)) e w' ∧ Below w.heap.size w w' := by
 have P1 := fun V => hid (s_small V k (by omega))
 have LK : Lim ((k : Nat) : Rat) := Lim.of (K := 2) ⟨by rw [Rat.num_natCast]; simp; omega, by rw [Rat.den_natCast]; omega⟩ (by omega)
 have P2 := fun V v u hv hu => hid (f_Div V v u q ((k : Nat) : Rat) hv hu (natR_ne hk) hl.1 hl.2 LK.1 LK.2)
 rw [show q / ((k : Nat) : Rat) = bm (q, k) from rfl] at P2
 have A1 := hid ((Below.refl w.heap.size w).alloc (Nat.le_refl _) (.cells #[.bool m, .slice a1 n1 c1, .slice a2 n2 c2, .int .i64 (k : Nat)] 73))
 have A2 := hid (A1.out.alloc A1.out.size (.cells #[.bool false, .slice none 0 0, .slice none 0 0] 57))
 have X1 := hid ((Blk.new w #[.bool m, .slice a1 n1 c1, .slice a2 n2 c2, .int .i64 (k : Nat)] 73).alloc (.cells #[.bool false, .slice none 0 0, .slice none 0 0] 57))
 have X2 := hid (show Blk ((w.alloc (.cells #[.bool m, .slice a1 n1 c1, .slice a2 n2 c2, .int .i64 (k : Nat)] 73)).alloc (.cells #[.bool false, .slice none 0 0, .slice none 0 0] 57)) (w.heap.size + 1) #[.bool false, .slice none 0 0, .slice none 0 0] 57 from Blk.made _ _ _ (by simp))
 have Q2 := hid (hq.call A2.out)
 obtain ⟨W, hW⟩ : ∃ W, (w.alloc (.cells #[.bool m, .slice a1 n1 c1, .slice a2 n2 c2, .int .i64 (k : Nat)] 73)).alloc (.cells #[.bool false, .slice none 0 0, .slice none 0 0] 57) = W := ⟨_, rfl⟩
 rw [hW] at A2 X1 X2 Q2
 have KK : Hid (∀ V, Below W.heap.size W V → V.cell? ⟨w.heap.size, 0, none⟩ = some (.bool m) ∧ V.cell? ⟨w.heap.size, 1, none⟩ = some (.slice a1 n1 c1) ∧ V.cell? ⟨w.heap.size, 2, none⟩ = some (.slice a2 n2 c2) ∧ V.cell? ⟨w.heap.size, 3, none⟩ = some (.int .i64 (k : Nat))) := fun V hV =>
  ⟨(X1.out.call hV).cell 0, (X1.out.call hV).cell 1, (X1.out.call hV).cell 2, (X1.out.call hV).cell 3⟩
 clear hq hk hk2 hl LK A1
 go_enter Tryz.func52, Tryz.ntmps52
 go_wp2_with fail
 try rw [hW]
 clear hW
 refine held_plain [0, 1, 2, 3] 3 (fun V => V.cell? ⟨w.heap.size, 0, none⟩ = some (.bool m) ∧ V.cell? ⟨w.heap.size, 1, none⟩ = some (.slice a1 n1 c1) ∧ V.cell? ⟨w.heap.size, 2, none⟩ = some (.slice a2 n2 c2) ∧ V.cell? ⟨w.heap.size, 3, none⟩ = some (.int .i64 (k : Nat))) (by kernel_rfl) (by kernel_rfl) (by kernel_rfl) (by kernel_rfl) (KK.out _ (Below.refl _ _).drew) ?_
 iterate 4
  refine ⟨_, rfl, ?_⟩
  apply Exists.intro
  refine ⟨.inl ⟨by rfl, ?_⟩, ?_⟩
  ·(intro W' hW'; obtain ⟨z1, z2, z3, z4⟩ := hW'; go_simp; try (with_reducible rfl))
  (dsimp only [Act.put]; try simp only [List.setIfInBounds_toArray, List.set_cons_zero, List.set_cons_succ])
 refine held_one (i := 4) (by kernel_rfl) (by rfl) (by rfl) ?_
 go_wp2_with fail
 refine (P1 _).out.mono ?_; rintro e w1 ⟨⟨v1, rfl, hv1⟩, hb1⟩
 obtain ⟨m3, a3, n3, c3, b3, d3, e3, rfl⟩ := hv1.qv
 have y1 := hid (show Below W.heap.size W w1 from (Below.refl _ _).drew.trans hb1)
 have N1 := hid hv1
 clear hb1 hv1
 go_wp2_with fail
 refine ⟨KK.out _ y1.out, ?_⟩
 refine held_one (i := 5) (by kernel_rfl) (by rfl) (by rfl) ?_
 go_wp2_with fail
 refine (P2 _ _ _ (Q2.out.call y1.out) N1.out).out.mono ?_; rintro e w2 ⟨⟨v2, rfl, hv2⟩, hb2⟩
 obtain ⟨m4, a4, n4, c4, b4, d4, e4, rfl⟩ := hv2.qv
 have y2 := hid (bnext y1.out hb2)
 have X3 := hid (X2.out.call y2.out)
 have Q3 := hid hv2
 clear hb2 hv2
 go_wp2_with fail
 refine ⟨KK.out _ y2.out, ?_⟩
 refine held_one (i := 6) (by kernel_rfl) (by rfl) (by rfl) ?_
 have d0 := X3.out.cell 0
 have d1 := X3.out.cell 1
 have d2 := X3.out.cell 2
 have e0 := X3.out.free 0
 have e1 := X3.out.free 1
 have e2 := X3.out.free 2
 simp at d0 d1 d2
 have BN := hid ((((A2.out.trans (y2.out.mono A2.out.size)).setCell (p := ⟨w.heap.size + 1, 0, none⟩) (by simp) (.bool m4)).setCell (p := ⟨w.heap.size + 1, 1, none⟩) (by simp) (.slice a4 n4 c4)).setCell (p := ⟨w.heap.size + 1, 2, none⟩) (by simp) (.slice b4 d4 e4))
 have KL := hid (KK.out _ y2.out)
 obtain ⟨s1, s2⟩ := set3 X3.out m4 a4 b4 n4 c4 d4 e4
 have S1 := hid s1; have S2 := hid s2
 have KS := hid (show (((w2.setCell ⟨w.heap.size + 1, 0, none⟩ (.bool m4)).setCell ⟨w.heap.size + 1, 1, none⟩ (.slice a4 n4 c4)).setCell ⟨w.heap.size + 1, 2, none⟩ (.slice b4 d4 e4)).heap[w.heap.size]? = w2.heap[w.heap.size]? from heap_set3 _ _ _ _ _ (by omega))
 clear s1 s2
 go_wp2_with fail
 have hS : ∀ j, (((w2.setCell ⟨w.heap.size + 1, 0, none⟩ (.bool m4)).setCell ⟨w.heap.size + 1, 1, none⟩ (.slice a4 n4 c4)).setCell ⟨w.heap.size + 1, 2, none⟩ (.slice b4 d4 e4)).cell? ⟨w.heap.size, j, none⟩ = w2.cell? ⟨w.heap.size, j, none⟩ := fun j => by unfold World.cell?; rw [KS.out]
 refine ⟨by obtain ⟨x1, x2, x3, x4⟩ := KL.out; exact ⟨(hS 0).trans x1, (hS 1).trans x2, (hS 2).trans x3, (hS 3).trans x4⟩, ?_⟩
 refine wpAnyH_done (by kernel_rfl) ?_ _
 simp only [Only]
 have f0 := S2.out.cell 0
 have f1 := S2.out.cell 1
 have f2 := S2.out.cell 2
 simp at f0 f1 f2
 go_wp2_with fail
 refine bodyPost_ret (v := .agg #[.bool m4, .slice a4 n4 c4, .slice b4 d4 e4]) (by simp [results, Tryz.results52, go_sem, f0, f1, f2]) rfl ⟨⟨_, rfl, isQ_putU X3.out m4 a4 b4 n4 c4 d4 e4 Q3.out⟩, BN.out⟩
theorem s_merge (w : World) (B g n c i : Nat) (bs : List (Rat × Nat)) (b : Rat × Nat) (hr : BRow B w (.slice (some ⟨g, 0, none⟩) n c) bs) (hi : bs[i]? = some b) (m : Bool) (a1 : Option Addr) (n1 c1 : Nat) (a2 : Option Addr) (n2 c2 : Nat) (q : Rat) (k : Nat) (hq : IsQ .u64 w (.agg #[.bool m, .slice a1 n1 c1, .slice a2 n2 c2]) q) (hk : b.2 + k ≤ 1000) (hl : Lim b.1) (hl2 : Lim q) :
 Calls Tryz.prog 53 #[.pointer (some ⟨g, i * 4, none⟩), .agg #[.bool m, .slice a1 n1 c1, .slice a2 n2 c2, .int .i64 (k : Nat)]] w fun e w' => e = .returned (.tuple #[]) ∧ BRow B w' (.slice (some ⟨g, 0, none⟩) n c) (bs.set i (b.1 + q, b.2 + k)) ∧ w.grownBy w' (some g) := by
 obtain ⟨mb, ab1, nb1, cb1, ab2, nb2, cb2, hB, hg, k0, k1, k2, k3, hQb⟩ := hr.at hi
 have hil := (List.getElem?_eq_some_iff.1 hi).1
 obtain ⟨p, kb⟩ := b
 dsimp only at *
 have PA := fun V v u hv hu => hid (f_Add V v u p q hv hu hl.1 hl.2 hl2.1 hl2.2)
 have A1 := hid ((Below.refl w.heap.size w).alloc (Nat.le_refl _) (.cells #[.bool m, .slice a1 n1 c1, .slice a2 n2 c2, .int .i64 (k : Nat)] 73))
 have X1 := hid (Blk.new w #[.bool m, .slice a1 n1 c1, .slice a2 n2 c2, .int .i64 (k : Nat)] 73)
 have QN := hid (hq.call A1.out); have QB := hid (hQb.call A1.out)
 have R1 := hid (hr.call A1.out)
 obtain ⟨W, hW⟩ : ∃ W, w.alloc (.cells #[.bool m, .slice a1 n1 c1, .slice a2 n2 c2, .int .i64 (k : Nat)] 73) = W := ⟨_, rfl⟩
 have GW := hid (show w.grownBy W (some g) by rw [← hW]; exact grown_below A1.out)
 rw [hW] at A1 X1 QN QB R1
 have wk : IntKind.i64.wrap ((kb : Int) + (k : Int)) = ((kb + k : Nat) : Int) := by rw [IntWalk.i64_in _ ⟨by omega, by omega⟩]; omega
 have d0 := (A1.out.cell (p := ⟨g, i * 4, none⟩) hg).trans k0
 have d1 := (A1.out.cell (p := ⟨g, i * 4 + 1, none⟩) hg).trans k1
 have d2 := (A1.out.cell (p := ⟨g, i * 4 + 2, none⟩) hg).trans k2
 have d3 := (A1.out.cell (p := ⟨g, i * 4 + 3, none⟩) hg).trans k3
 have D0 := hid d0; have D1 := hid d1; have D2 := hid d2; have D3 := hid d3
 have HG := hid (show g ≠ w.heap.size by omega); have HI := hid hil
 have KX : Hid (∀ V, Below W.heap.size W V → V.cell? ⟨w.heap.size, 0, none⟩ = some (.bool m) ∧ V.cell? ⟨w.heap.size, 1, none⟩ = some (.slice a1 n1 c1) ∧ V.cell? ⟨w.heap.size, 2, none⟩ = some (.slice a2 n2 c2) ∧ V.cell? ⟨w.heap.size, 3, none⟩ = some (.int .i64 (k : Nat)) ∧ V.cell? ⟨g, i * 4 + 3, none⟩ = some (.int .i64 (kb : Nat))) := fun V hV =>
  ⟨(X1.out.call hV).cell 0, (X1.out.call hV).cell 1, (X1.out.call hV).cell 2, (X1.out.call hV).cell 3, (hV.cell (p := ⟨g, i * 4 + 3, none⟩) (cell_lt D3.out)).trans D3.out⟩
 clear hr hi hq hk hl hl2 hB hg k0 k1 k2 k3 hQb hil d0 d1 d2 d3
 go_enter Tryz.func53, Tryz.ntmps53
 go_wp2_with fail
 try rw [hW]
 clear hW
 refine held_lasts2 19 3 [] [(19, 20)] [0, 1, 2, 3, 4, 6, 7, 9, 10, 11, 12, 13, 14, 15] 5 (fun V => V.cell? ⟨w.heap.size, 0, none⟩ = some (.bool m) ∧ V.cell? ⟨w.heap.size, 1, none⟩ = some (.slice a1 n1 c1) ∧ V.cell? ⟨w.heap.size, 2, none⟩ = some (.slice a2 n2 c2) ∧ V.cell? ⟨w.heap.size, 3, none⟩ = some (.int .i64 (k : Nat)) ∧ V.cell? ⟨g, i * 4 + 3, none⟩ = some (.int .i64 (kb : Nat))) (by kernel_rfl) (by kernel_rfl) (by kernel_rfl) (by kernel_rfl) (by kernel_rfl) (by kernel_rfl) (by kernel_rfl) (by kernel_rfl) (by kernel_rfl) (by kernel_rfl) (by kernel_rfl) (by kernel_rfl) (KX.out _ (Below.refl _ _).drew) ?_
 iterate 14
  refine ⟨_, rfl, ?_⟩
  apply Exists.intro
  refine ⟨.inl ⟨by rfl, ?_⟩, ?_⟩
  ·(intro W' hW'; obtain ⟨z1, z2, z3, z4, z5⟩ := hW'; go_simp; try (with_reducible rfl))
  (dsimp only [Act.put]; try simp only [List.setIfInBounds_toArray, List.set_cons_zero, List.set_cons_succ])
 refine held_one (i := 5) (by kernel_rfl) (by rfl) (by rfl) ?_
 have d0 := D0.out; have d1 := D1.out; have d2 := D2.out
 go_wp2_with fail
 refine ⟨KX.out _ (Below.refl _ _).drew, ?_⟩
 refine held_one (i := 8) (by kernel_rfl) (by rfl) (by rfl) ?_
 go_wp2_with fail
 refine (PA _ _ _ (QB.out.call (Below.refl _ _).drew) (QN.out.call (Below.refl _ _).drew)).out.mono ?_; rintro e w6 ⟨⟨v6, rfl, hv6⟩, hb6⟩
 obtain ⟨m7, a7, n7, c7, a8, n8, c8, rfl⟩ := hv6.qv
 have y6 := hid (show Below W.heap.size W w6 from (Below.refl _ _).drew.trans hb6)
 have V6 := hid hv6
 clear hb6 hv6 d0 d1 d2
 go_wp2_with fail
 refine ⟨KX.out _ y6.out, ?_⟩
 refine held_one (i := 16) (by kernel_rfl) (by rfl) (by rfl) ?_
 go_wp2_with fail
 refine ⟨KX.out _ y6.out, ?_⟩
 refine held_one (i := 17) (by kernel_rfl) (by rfl) (by rfl) ?_
 go_wp2_with fail
 refine ⟨KX.out _ y6.out, ?_⟩
 refine held_one (i := 18) (by kernel_rfl) (by rfl) (by rfl) ?_
 have R6 := hid (R1.out.call y6.out)
 have r0 := (y6.out.cell (p := ⟨g, i * 4, none⟩) (cell_lt D0.out)).trans D0.out
 have r1 := (y6.out.cell (p := ⟨g, i * 4 + 1, none⟩) (cell_lt D1.out)).trans D1.out
 have r2 := (y6.out.cell (p := ⟨g, i * 4 + 2, none⟩) (cell_lt D2.out)).trans D2.out
 have r3 := (y6.out.cell (p := ⟨g, i * 4 + 3, none⟩) (cell_lt D3.out)).trans D3.out
 have f0 := R6.out.free (i * 4)
 have f1 := R6.out.free (i * 4 + 1)
 have f2 := R6.out.free (i * 4 + 2)
 have f3 := R6.out.free (i * 4 + 3)
 have KY := hid (KX.out _ y6.out)
 obtain ⟨cur, hcur⟩ := R6.out.blk
 have hS : ∀ (h j : Nat), (h ≠ g ∨ j = i * 4 + 3) → (((w6.setCell ⟨g, i * 4, none⟩ (.bool m7)).setCell ⟨g, i * 4 + 1, none⟩ (.slice a7 n7 c7)).setCell ⟨g, i * 4 + 2, none⟩ (.slice a8 n8 c8)).cell? ⟨h, j, none⟩ = w6.cell? ⟨h, j, none⟩ := fun h j hh => cell_set3 hcur _ _ _ _ _ _ (hh.imp_right fun e => ⟨by omega, by omega, by omega⟩)
 have HS := hid hS
 clear hS hcur
 go_wp2_with fail
 refine ⟨by
  obtain ⟨x1, x2, x3, x4, x5⟩ := KY.out
  exact ⟨(HS.out _ _ (.inl HG.out.symm)).trans x1, (HS.out _ _ (.inl HG.out.symm)).trans x2, (HS.out _ _ (.inl HG.out.symm)).trans x3, (HS.out _ _ (.inl HG.out.symm)).trans x4, (HS.out _ _ (.inr rfl)).trans x5⟩, ?_⟩
 refine wpAnyH_done (by kernel_rfl) ?_ _
 simp only [Only, ThenL, List.drop_succ_cons, List.drop_zero]
 have s3 := (HS.out g (i * 4 + 3) (.inr rfl)).trans r3
 obtain ⟨P1, P2⟩ := R6.out.put (i := i) HI.out (k := kb + k) V6.out
 have P3 := hid P1
 have G6 := hid (show w.grownBy ((((w6.setCell ⟨g, i * 4, none⟩ (.bool m7)).setCell ⟨g, i * 4 + 1, none⟩ (.slice a7 n7 c7)).setCell ⟨g, i * 4 + 2, none⟩ (.slice a8 n8 c8)).setCell ⟨g, i * 4 + 3, none⟩ (.int .i64 ((kb + k : Nat) : Int))) (some g) from
  ((GW.out.trans (grown_below (r := some g) y6.out)).trans (grown_set3 (g := g) (j := i * 4) (.bool m7) (.slice a7 n7 c7) (.slice a8 n8 c8))).trans (grown_one _ g (i * 4 + 3) (.int .i64 ((kb + k : Nat) : Int))))
 clear P1 P2
 go_wp2_with fail
 try simp only [Only]
 try go_wp2_with fail
 rw [Int.natCast_add] at P3 G6
 go_end0
 exact ⟨rfl, P3.out, G6.out⟩
end Go.Proofs.YtlimaehdmcnjaaaGreatDoor
namespace Go.Proofs
open Go.Shelf
def Tryz.lays212_ren : Go.Shelf.Ren := ⟨fun | 212 => 108 | 263 => 149 | 264 => 150 | n => n, fun | 46 => 118 | 51 => 161 | 146 => 167 | 53 => 122 | 148 => 169 | n => n, fun | n => n⟩
theorem Tryz.lays212 : Go.Proofs.Lays.n212 Tryz.prog Tryz.lays212_ren := {
 mixed := by kernel_rfl
 f212 := Tryz.func108.trans (congrArg some (by kernel_rfl))
 f263 := Tryz.func149.trans (congrArg some (by kernel_rfl))
 f264 := Tryz.func150.trans (congrArg some (by kernel_rfl))
 t46 := Tryz.underlying118
 a46 := Tryz.isAgg118
 z46 := Tryz.sizeOf118
 v46 := Tryz.zeroValue118
 t51 := Tryz.underlying161
 a51 := Tryz.isAgg161
 z51 := Tryz.sizeOf161
 v51 := Tryz.zeroValue161
 t53 := Tryz.underlying122
 a53 := Tryz.isAgg122
 z53 := Tryz.sizeOf122
 v53 := Tryz.zeroValue122
 t146 := Tryz.underlying167
 a146 := Tryz.isAgg167
 z146 := Tryz.sizeOf167
 v146 := Tryz.zeroValue167
 t148 := Tryz.underlying169
 a148 := Tryz.isAgg169
 z148 := Tryz.sizeOf169
 v148 := Tryz.zeroValue169 }
open Go.RowKit Go.Lib in
theorem Tryz.bits_Mul (x y : Nat) (hx : x < 18446744073709551616) (hy : y < 18446744073709551616) (w : World) :
 Calls Tryz.prog 108 #[.int .u64 x, .int .u64 y] w fun e w' => e = .returned (.tuple #[.int .u64 ((x * y / 18446744073709551616 : Nat) : Int), .int .u64 ((x * y % 18446744073709551616 : Nat) : Int)]) ∧ w' = w := Any.bits_Mul Tryz.lays212 x y hx hy w
end Go.Proofs
namespace Go.Proofs.YtlimaehdmcnjaaaGreatDoor
open Go.RowKit
open Go.Shelf
open Go.Lib (decDigits nDigits)
theorem run_copy_rowK {P : Program} (w : World) (dT sT ty elem : TypeId) (g o dLen dCap : Nat) (a : Addr) (sLen sCap : Nat) (cur : Array Value) (t : TypeId) (cs : List Value) (sz m : Nat)
 (hu : P.underlying dT = some (.slice elem)) (hs : (P.info? elem).map (·.size) = some sz)
 (hg : w.heap[g]? = some (.cells cur t (0, 0))) (hm : m = Nat.min sLen dLen) (hn : cs.length = m * sz)
 (hsrc : ∀ j v, cs[j]? = some v → w.cell? (a.add j) = some v) (hfit : o + cs.length ≤ cur.size) (h1 : ∀ v ∈ cs, v.oneCell' = true) :
 (Builtin.copy_ #[dT, sT] ty #[.slice (some ⟨g, o, none⟩) dLen dCap, .slice (some a) sLen sCap]).run P w =
  .ok (goInt m) (w.setRow g (cur.toList.take o ++ cs ++ cur.toList.drop (o + cs.length)).toArray) := by
 have hl := run_loadCells_list (P := P) w a cs hsrc
 rw [hn] at hl
 have hst := run_storeCells_at P g o t cs 0 cur w hg (by simpa using hfit) h1
 cases hq : P.info? elem with
 | none => simp [hq] at hs
 | some i =>
  have hi : i.size = sz := by simpa [hq] using hs
  simp [Builtin.copy_, run_underlying hu, Builtin.lenOf, Builtin.firstCells, sizeOf, typeInfo, hq, hi, ← hm, hl, hst]
theorem wpList_copyK {P : Program} {w : World} {ops : Array Oper} {rest : List Oper} {o : Oper} {a : Act} {Q : Exit → Act → World → Prop} (hgd : o.guard = none) (d s : Operand) (dT sT : TypeId)
 (ho : o.op = .call { callee := .builtin .copy, args := #[d, s], argTypes := #[dT, sT] }) (elem : TypeId) (sz m : Nat) (hu : P.underlying dT = some (.slice elem)) (hsz : (P.info? elem).map (·.size) = some sz)
 (ad : Addr) (dLen dCap sLen sCap g off : Nat) (hd : a.eval d = .slice (some ⟨g, off, none⟩) dLen dCap) (hs : a.eval s = .slice (some ad) sLen sCap)
 (cur : List Value) (t : TypeId) (hg : w.heap[g]? = some (.cells cur.toArray t (0, 0))) (cs : List Value) (hm : m = Nat.min sLen dLen) (hn : cs.length = m * sz)
 (hsrc : ∀ j v, cs[j]? = some v → w.cell? (ad.add j) = some v) (hfit : off + cs.length ≤ cur.length) (h1 : ∀ v ∈ cs, v.oneCell' = true) (B : Nat) (w0 : World) (hb : Below B w0 w) (hBg : B ≤ g)
 (h : ∀ w', Hid (w'.heap[g]? = some (.cells (splice cur off cs).toArray t (0, 0))) → Below B w0 w' → wpList P ops Q rest (a.put o.dst (goInt m)) w') :
 wpList P ops Q (o :: rest) a w := by
 refine wpList_plain hgd fun K hK => ?_
 have hrun := run_copy_rowK (P := P) w dT sT o.type elem g off dLen dCap ad sLen sCap cur.toArray t cs sz m hu hsz hg hm hn hsrc (by simpa using hfit) h1
 unfold Oper.wp
 simp [execOp, ho, resolve, invoke, builtin, hd, hs, hrun, Result.andThen]
 exact hK _ _ (h _ (show _ = _ by simpa [splice] using setRow_heap w g _ _ t _ hg) (below_setRow hb hBg _))
def rp3 (x y z : Value) (k : Nat) : List Value := (List.replicate k [x, y, z]).flatten
theorem rp3_len (x y z : Value) (k : Nat) : (rp3 x y z k).length = k * 3 := by
 unfold rp3
 induction k with
 | zero => rfl
 | succ k ih => rw [List.replicate_succ, List.flatten_cons, List.length_append, ih]; show 3 + k * 3 = _; omega
theorem rp3_add (x y z : Value) (k m : Nat) : rp3 x y z (k + m) = rp3 x y z k ++ rp3 x y z m := by
 unfold rp3
 rw [← List.flatten_append, List.replicate_append_replicate]
theorem rp3_mem {x y z u : Value} {k : Nat} (h : u ∈ rp3 x y z k) : u = x ∨ u = y ∨ u = z := by
 unfold rp3 at h
 rw [List.mem_flatten] at h
 obtain ⟨c, h1, h2⟩ := h
 rw [List.eq_of_mem_replicate h1] at h2
 simpa using h2
def zz : Value := .slice none 0 0
def rpS (x y z : Value) (n k : Nat) : List Value := rp3 x y z k ++ rp3 (.bool false) zz zz (n - k)
theorem news_blk3 {W : World} {g : Nat} {x y z : Value} {t : TypeId} (h : Blk W g #[x, y, z] t) : ∀ j v, (rp3 x y z 1)[j]? = some v → W.cell? ((⟨g, 0, none⟩ : Addr).add j) = some v := fun j v hj => by
 rw [Addr.add_lit, Nat.zero_add, h.cell]
 simpa [rp3] using hj
theorem rpS_len {x y z : Value} {n k : Nat} (h : k ≤ n) : (rpS x y z n k).length = n * 3 := by
 unfold rpS
 rw [List.length_append, rp3_len, rp3_len, ← Nat.add_mul]
 congr 1; omega
theorem rpS_splice {x y z : Value} {n k m : Nat} (h : k + m ≤ n) : splice (rpS x y z n k) (k * 3) (rp3 x y z m) = rpS x y z n (k + m) := by
 unfold splice rpS
 rw [rp3_add x y z k m, rp3_len, List.take_append, rp3_len, Nat.sub_self, List.take_zero, List.append_nil, List.take_of_length_le (by rw [rp3_len]; exact Nat.le_refl _), List.drop_append, rp3_len, List.drop_of_length_le (by rw [rp3_len]; omega), List.nil_append,
  show k * 3 + m * 3 - k * 3 = m * 3 by omega, show n - k = m + (n - (k + m)) by omega, rp3_add _ _ _ m, List.drop_append, rp3_len, List.drop_of_length_le (by rw [rp3_len]; exact Nat.le_refl _), Nat.sub_self, List.drop_zero, List.nil_append, List.append_assoc]
theorem rp3_get {x y z : Value} {k j : Nat} {u : Value} (h : (rp3 x y z k)[j]? = some u) : [x, y, z][j % 3]? = some u := by
 induction k generalizing j with
 | zero => simp [rp3] at h
 | succ k ih =>
  unfold rp3 at h
  rw [List.replicate_succ, List.flatten_cons] at h
  by_cases hj : j < 3
  ·rw [List.getElem?_append_left (by simpa using hj)] at h
   rw [Nat.mod_eq_of_lt hj]; exact h
  ·rw [List.getElem?_append_right (by simpa using hj)] at h
   have := ih (j := j - 3) h
   rwa [show (j - 3) % 3 = j % 3 by omega] at this
theorem made_fr (n : Nat) : madeCells #[.bool false, .slice none 0 0, .slice none 0 0] (n * 3) = (rp3 (.bool false) zz zz n).toArray := by
 apply Array.ext_getElem?
 intro i
 unfold madeCells
 by_cases hi : i < n * 3
 ·have h1 : ∃ u, (rp3 (.bool false) zz zz n)[i]? = some u := ⟨_, List.getElem?_eq_getElem (by rw [rp3_len]; exact hi)⟩
  obtain ⟨u, hu⟩ := h1
  have h2 := rp3_get hu
  rw [List.getElem?_toArray (xs := rp3 (.bool false) zz zz n), hu, ← h2]
  have h4 : i % 3 < 3 := Nat.mod_lt _ (by omega)
  rw [Array.getElem?_map, Array.getElem?_range, if_pos hi]
  show some _ = _
  rw [show (#[Value.bool false, .slice none 0 0, .slice none 0 0] : Array Value).size = 3 from rfl]
  dsimp only
  clear hu h2
  generalize i % 3 = r at h4 ⊢
  match r, h4 with
  | 0, _ => rfl
  | 1, _ => rfl
  | 2, _ => rfl
 ·rw [List.getElem?_toArray (xs := rp3 (.bool false) zz zz n), List.getElem?_eq_none (l := rp3 (.bool false) zz zz n) (by rw [rp3_len]; omega), Array.getElem?_map, Array.getElem?_range, if_neg hi]
  rfl
theorem make_fr (n : Nat) (h : n ≤ 1000000) (W : World) : (Instr.makeSlice 53 (.int .i64 (n : Int)) (.int .i64 (n : Int))).run Tryz.prog W = .ok (.slice (some ⟨W.heap.size, 0, none⟩) n n) (W.alloc (.cells (rp3 (.bool false) zz zz n).toArray 57)) := by
 obtain ⟨i0, hi, hz0, hz1, hz2⟩ := info_parts info_fr
 have hr := run_make (P := Tryz.prog) W 53 57 i0 (.agg #[.bool false, .slice none 0 0, .slice none 0 0]) Tryz.underlying53 hi hz0 .i64 .i64 n n (by omega) (Int.le_refl _) (by rw [hz2]; omega) (by omega)
 simp only [Int.toNat_natCast, hz1] at hr
 rw [hr, show Value.cells (.agg #[.bool false, .slice none 0 0, .slice none 0 0]) = #[.bool false, .slice none 0 0, .slice none 0 0] from rfl, made_fr]
theorem rp3_one {x y z : Value} {k : Nat} (hx : x.oneCell' = true) (hy : y.oneCell' = true) (hz : z.oneCell' = true) : ∀ v ∈ rp3 x y z k, v.oneCell' = true := fun v hv => by
 rcases rp3_mem hv with rfl | rfl | rfl <;> assumption
theorem s_RepF (w : World) (g0 n : Nat) (x y z : Value) (h1 : 1 ≤ n) (h2 : n ≤ 100000) (hB : Blk w g0 #[x, y, z] 57) (hx : x.oneCell' = true) (hy : y.oneCell' = true) (hz : z.oneCell' = true) :
 Calls Tryz.prog 54 #[.slice (some ⟨g0, 0, none⟩) 1 1, .int .i64 n] w fun e w' =>
  e = .returned (.slice (some ⟨w.heap.size, 0, none⟩) n n) ∧ Blk w' w.heap.size (rp3 x y z n).toArray 57 ∧ Below w.heap.size w w' := by
 have HM := fun W => hid (make_fr n (by omega) W)
 have HB := fun W => hid (Tryz.bits_Mul 1 n (by omega) (by omega) W)
 have e1 : (((1 * n / 18446744073709551616 : Nat)) : Int) = 0 := by
  rw [Nat.one_mul, Nat.div_eq_of_lt (by omega)]; rfl
 have e2 : (((1 * n % 18446744073709551616 : Nat)) : Int) = (n : Int) := by
  rw [Nat.one_mul, Nat.mod_eq_of_lt (by omega)]
 rw [e1, e2] at HB
 have hn0 : (0 : Int) ≤ (n : Int) := by omega
 have hn1 : (n : Int) ≤ 100000 := by omega
 have q0 : decide ((n : Int) < 0) = false := by simp
 have HSRC := hid (show ∀ j v, (rp3 x y z 1)[j]? = some v → w.cell? ((⟨g0, 0, none⟩ : Addr).add j) = some v from news_blk3 hB)
 have H1 := hid h1; have H2 := hid h2; have HONE := fun k => hid (rp3_one (k := k) hx hy hz)
 clear e1 e2 hB h1 h2 hx hy hz
 go_enter Tryz.func54, Tryz.ntmps54
 go_wp2_with fail
 refine (HB _).out.mono ?_; rintro e w1 ⟨rfl, rfl⟩
 clear HB
 have HM1 := (HM w1).out
 have C1 := hid (show (w1.alloc (.cells (rp3 (.bool false) zz zz n).toArray 57)).heap[w1.heap.size]? = some (.cells (rpS x y z n 0).toArray 57 (0, 0)) by
  have := Blk.new w1 (rp3 (.bool false) zz zz n).toArray 57
  simpa [rpS, Blk, rp3] using this)
 have C3 := hid (show ∀ j v, (rp3 x y z 1)[j]? = some v → (w1.alloc (.cells (rp3 (.bool false) zz zz n).toArray 57)).cell? ((⟨g0, 0, none⟩ : Addr).add j) = some v from fun j v h =>
  have h2 := HSRC.out j v h
  (((Below.refl w1.heap.size w1).alloc (Nat.le_refl _) _).cell (cell_lt h2)).trans h2)
 have C5 := hid ((Below.refl w1.heap.size w1).alloc (Nat.le_refl _) (.cells (rp3 (.bool false) zz zz n).toArray 57))
 have HSP := hid (show splice (rpS x y z n 0) 0 (rp3 x y z 1) = rpS x y z n 1 from by
  have := rpS_splice (x := x) (y := y) (z := z) (n := n) (k := 0) (m := 1) (by have := H1.out; omega)
  simpa using this)
 clear HM
 go_wp2_with (refine wpList_copyK rfl (.tmp 31) (.tmp 32) 53 53 rfl 57 3 1 Tryz.underlying53 (by kernel_rfl) ⟨g0, 0, none⟩ n n 1 1 w1.heap.size 0 rfl rfl (rpS x y z n 0) 57 C1.out (rp3 x y z 1) (Nat.min_eq_left H1.out).symm (rp3_len _ _ _ _) C3.out (by rw [rp3_len, rpS_len (Nat.zero_le _)]; have := H1.out; omega) (HONE 1).out w1.heap.size w1 C5.out (Nat.le_refl _) ?_; intro w2 hg2 hb2)
 rw [HSP.out] at hg2
 have G2 := hid (show Blk w2 w1.heap.size (rpS x y z n 1).toArray 57 from hg2.out); have B2 := hid hb2
 obtain ⟨H, hH⟩ : ∃ H, w1.heap.size = H := ⟨_, rfl⟩
 rw [hH] at G2 B2 ⊢
 clear hg2 hb2 HM1 C1 C3 C5 HSP HSRC
 have HH := hid hH
 clear hH
 go_loopw [8] (fun i wr => ∃ k : Nat, i = .int .i64 (k : Nat) ∧ 1 ≤ k ∧ k ≤ n ∧ Hid (Blk wr H (rpS x y z n k).toArray 57) ∧ Hid (Below H w1 wr)) (fun i wr => n - (intOf i).toNat)
 case atStart => exact ⟨1, rfl, Nat.le_refl _, H1.out, G2.out, B2.out⟩
 case round =>
  obtain ⟨k, rfl, hk1, hk2, hG, hB⟩ := hrel
  by_cases hlt : k < n
  ·have f0 : (0 : Int) ≤ (k : Int) := by omega
   have f1 : (k : Int) < (n : Int) := by omega
   have f2 : (k : Int) ≤ (n : Int) := by omega
   have K1 := hid hk1; have K2 := hid hlt
   clear hk1 hk2
   go_wp2_with fail
   refine held_plain [0, 1, 2, 3, 4, 5, 6] 3 (fun _ => True) (by kernel_rfl) (by kernel_rfl) (by kernel_rfl) (by kernel_rfl) trivial ?_
   iterate 7
    refine ⟨_, rfl, ?_⟩
    apply Exists.intro
    refine ⟨.inl ⟨by rfl, ?_⟩, ?_⟩
    ·(intro W' hW'; clear hW'; go_simp; try (with_reducible rfl))
    (dsimp only [Act.put]; try simp only [List.setIfInBounds_toArray, List.set_cons_zero, List.set_cons_succ])
   refine held_one (i := 7) (by kernel_rfl) (by rfl) (by rfl) ?_
   obtain ⟨m, hm⟩ : ∃ m, Nat.min k (n - k) = m := ⟨_, rfl⟩
   have hm1 : m ≤ k := hm ▸ Nat.min_le_left _ _
   have hm2 : m ≤ n - k := hm ▸ Nat.min_le_right _ _
   have hm3 : 1 ≤ m := by rw [← hm]; exact Nat.le_min.2 ⟨K1.out, by omega⟩
   have hsrc : ∀ j v, (rp3 x y z m)[j]? = some v → wr.drew.cell? ((⟨H, 0, none⟩ : Addr).add j) = some v := fun j v hj => by
    rw [Addr.add_lit, Nat.zero_add]
    have hjm : j < m * 3 := by
     have := (List.getElem?_eq_some_iff.1 hj).1
     rwa [rp3_len] at this
    refine (Blk.cell (Blk.drew hG.out) j).trans ?_
    rw [List.getElem?_toArray]
    unfold rpS
    rw [List.getElem?_append_left (by rw [rp3_len]; omega), show k = m + (k - m) by omega, rp3_add, List.getElem?_append_left (by rw [rp3_len]; omega)]
    exact hj
   rw [if_neg (show ¬ n = k by have := K2.out; omega)]
   refine wpList_copyK rfl (.tmp 41) (.tmp 44) 53 53 rfl 57 3 m Tryz.underlying53 (by kernel_rfl) ⟨H, 0, none⟩ (n - k) (n - k) k n H (k * 3) rfl rfl (rpS x y z n k) 57 hG.out (rp3 x y z m) hm.symm (rp3_len _ _ _ _) hsrc (by rw [rp3_len, rpS_len (Nat.le_of_lt K2.out)]; have := K2.out; omega) (HONE m).out H w1 (hB.out.drew) (Nat.le_refl _) ?_
   intro w4 hg4 hb4
   rw [rpS_splice (by have := K2.out; omega)] at hg4
   have G4 := hid (show Blk w4 H (rpS x y z n (k + m)).toArray 57 from hg4.out); have B4 := hid hb4
   have M2 := hid hm2; have M3 := hid hm3
   have f5 : (0 : Int) ≤ (m : Int) := by omega
   have f6 : (m : Int) ≤ 100000 := by omega
   have ew : IntKind.i64.wrap ((k : Int) + (m : Int)) = (k : Int) + (m : Int) := by rw [IntWalk.i64_in _ ⟨by omega, by omega⟩]
   clear hm hm1 hm2 hm3 hsrc hg4 hb4
   go_wp2_with fail
   refine ⟨trivial, ?_⟩
   refine held_more (is := [8, 9]) (g := 0) (by kernel_rfl) rfl trivial (by kernel_rfl) ?_
   iterate 2
    refine ⟨_, rfl, ?_⟩
    apply Exists.intro
    refine ⟨.inl ⟨by rfl, ?_⟩, ?_⟩
    ·(intro W' hW'; clear hW'; go_simp; try (with_reducible rfl))
    (dsimp only [Act.put]; try simp only [List.setIfInBounds_toArray, List.set_cons_zero, List.set_cons_succ])
   refine wpAnyH_done (by kernel_rfl) ?_ _
   simp only [Only]
   go_wp2_with fail
   go_roundw
   case rel => exact ⟨k + m, by rw [Int.natCast_add], by have := M3.out; omega, by have := M2.out; have := K2.out; omega, G4, B4⟩
   case measure => simp [intOf] <;> (have := M3.out; have := K2.out; omega)
  ·have e1 : k = n := by omega
   subst e1
   go_wp2_with fail
   go_ret
   have hh := HH.out
   subst hh
   refine ⟨rfl, ?_, hB.out⟩
   have := hG.out
   simpa [rpS, rp3] using this
theorem rp_row {w' : World} {B g n : Nat} {m : Bool} {a1 a2 : Option Addr} {n1 c1 n2 c2 : Nat} {q : Rat} (hB : Blk w' g (rp3 (.bool m) (.slice a1 n1 c1) (.slice a2 n2 c2) n).toArray 57) (hg : B ≤ g) (hn : n ≤ 100000) (hq : IsQ .u64 w' (.agg #[.bool m, .slice a1 n1 c1, .slice a2 n2 c2]) q) :
 ∃ cs, cs = List.replicate n [.bool m, .slice a1 n1 c1, .slice a2 n2 c2] ∧ KRow .u64 57 3 B w' (.slice (some ⟨g, 0, none⟩) n n) cs ∧ QL .u64 w' cs (List.replicate n q) := by
 refine ⟨_, rfl, ⟨⟨by rw [List.length_replicate]; exact rp3_len _ _ _ _, .inr ⟨g, n, _, by rw [List.length_replicate], hg, hB, by rw [List.length_replicate]; exact Nat.le_refl _, by unfold maxLen; omega, by rw [List.size_toArray, rp3_len], ?_⟩⟩, fun c hc => by rw [List.eq_of_mem_replicate hc]; rfl, fun g' hg' => ?_⟩, by simp, fun i x hx => ?_⟩
 ·rw [List.length_replicate]
  show (rp3 _ _ _ n).take (n * 3) = _
  rw [List.take_of_length_le (by rw [rp3_len]; exact Nat.le_refl _)]
  rfl
 ·obtain rfl : g = g' := by simpa [Value.ownBlock] using hg'
  refine ⟨_, hB, NoK.of fun v hv => ?_⟩
  rcases rp3_mem hv with e | e | e <;> cases e
 ·have hi : i < n := by have := (List.getElem?_eq_some_iff.1 hx).1; simpa using this
  rw [List.getElem?_replicate, if_pos hi] at hx ⊢
  obtain rfl := Option.some.inj hx
  exact ⟨_, rfl, QC.of hq⟩
theorem q_with (w : World) (s : ByteArray) (F : Nat) (cs : Array Value) (R : ByteArray) (x : Int) (hs : s.size ≤ 1000000) (hL : Lay w)
 (hen : ∀ args w, (callFunc F args).run Tryz.prog w = .ok (.enter F args) w)
 (hF : ∀ W v, qE s = 0 → Below w.heap.size w W → IsQ .u64 W v (vQ s) → Lay W → Calls Tryz.prog F (#[v] ++ cs) W fun e w' => e = .returned (.tuple #[.string R, .int .i64 x]) ∧ Below W.heap.size W w') :
 Calls Tryz.prog 154 #[.string s, .func (.func F) #[] cs] w fun e w' => e = .returned (.tuple #[.string (wB R s), .int .i64 (wE x s)]) ∧ Below w.heap.size w w' := by
 have HP := hid (f_Parse w s hs hL)
 have HL := hid hL
 have HF := hid hF
 clear hF hs hL
 by_cases h1 : qE s = 0
 ·have e1 : wB R s = R := if_pos h1
  have e2 : wE x s = x := if_pos h1
  rw [e1, e2]
  have HQ := hid h1
  rw [h1] at HP
  clear h1 e1 e2
  go_enter Tryz.func154, Tryz.ntmps154
  go_wp2_with fail
  refine HP.out.mono ?_; rintro e w1 ⟨⟨v, rfl, hv, -⟩, hb1⟩
  have hq := isQ_of HQ.out (hv rfl)
  have y1 := hid hb1
  obtain ⟨N, D, hvv, hN, hD⟩ := hv rfl
  subst hvv
  obtain ⟨a, c, rfl, _⟩ := hN.openI
  obtain ⟨a', c', rfl, _⟩ := hD.openI
  obtain ⟨k, hk⟩ : ∃ k, (limbs (bN (iD (cW s)))).length = k := ⟨_, rfl⟩
  obtain ⟨k', hk'⟩ : ∃ k, (limbs (bN (qD s))).length = k := ⟨_, rfl⟩
  obtain ⟨m, hm⟩ : ∃ m, iM (cW s) = m := ⟨_, rfl⟩
  rw [hk, hk', hm] at hq
  rw [hk, hk', hm]
  have Q1 := hid hq
  have X2 := hid (Blk.new w1 #[.bool m, .slice a k c, .slice a' k' c'] 57)
  have b2 := hid ((Below.refl w1.heap.size w1).alloc (Nat.le_refl _) (.cells #[.bool m, .slice a k c, .slice a' k' c'] 57))
  have y2 := hid (bnext y1.out b2.out)
  have Q2 := hid (hq.call b2.out)
  have r0 := X2.out.cell 0
  have r1 := X2.out.cell 1
  have r2 := X2.out.cell 2
  simp at r0 r1 r2
  clear hb1 hv hN hD hk hk' hm hq b2
  go_wp2_with fail
  refine (HF.out _ _ HQ.out y2.out Q2.out (HL.out.call y2.out)).mono ?_; rintro e w3 ⟨rfl, hb3⟩
  have y3 := hid (bnext y2.out hb3); clear hb3
  go_wp2_with fail
  go_ret2
  exact ⟨rfl, y3.out⟩
 ·have e1 : wB R s = ⟨#[]⟩ := if_neg h1
  have e2 : wE x s = qE s := if_neg h1
  rw [e1, e2]
  obtain ⟨y, hy⟩ : ∃ y, qE s = y := ⟨_, rfl⟩
  rw [hy] at HP h1 ⊢
  have q0 : (y == 0) = false := by simpa using h1
  have q1 : (y != 0) = true := by simpa using h1
  have H1 := hid h1
  clear e1 e2 hy h1
  go_enter Tryz.func154, Tryz.ntmps154
  go_wp2_with fail
  refine HP.out.mono ?_; rintro e w1 ⟨⟨v, rfl, -, hv⟩, hb1⟩
  have hv' := hv H1.out
  subst hv'
  have y1 := hid hb1
  have y2 := hid (y1.out.alloc y1.out.size (.cells #[.bool false, .slice none 0 0, .slice none 0 0] 57))
  clear hb1 hv
  go_wp2_with fail
  go_ret2
  exact ⟨rfl, y2.out⟩
def flQ (q : Rat) : Rat := ((q.floor : Int) : Rat)
def flN (q : Rat) : Nat := if q.num < 0 ∧ q.num.natAbs % q.den ≠ 0 then q.num.natAbs / q.den + 1 else q.num.natAbs / q.den
theorem floor_of {z : Int} {a d : Nat} (hd : 0 < d) (hz : z.natAbs = a) : z / (d : Int) = if z < 0 then -(((if z < 0 ∧ a % d ≠ 0 then a / d + 1 else a / d) : Nat) : Int) else (((if z < 0 ∧ a % d ≠ 0 then a / d + 1 else a / d) : Nat) : Int) := by
 have e2 := Nat.mod_add_div a d
 have r2 := Nat.mod_lt a hd
 obtain ⟨Q, hQ⟩ : ∃ Q, a / d = Q := ⟨_, rfl⟩
 obtain ⟨R, hR⟩ : ∃ R, a % d = R := ⟨_, rfl⟩
 rw [hQ, hR] at e2
 rw [hR] at r2
 rw [hQ, hR]
 have e3 : ((R : Nat) : Int) + (d : Int) * (Q : Int) = (a : Int) := by exact_mod_cast e2
 have hd' : (0 : Int) < (d : Int) := by omega
 by_cases h : z < 0
 ·rw [if_pos h]
  by_cases hr : R = 0
  ·rw [if_neg (fun x => x.2 hr)]
   refine ((Int.ediv_emod_unique (r := 0) hd').2 ⟨?_, by omega, by omega⟩).1
   rw [Int.mul_neg]; omega
  ·rw [if_pos ⟨h, hr⟩]
   refine ((Int.ediv_emod_unique (r := (d : Int) - R) hd').2 ⟨?_, by omega, by omega⟩).1
   rw [Int.mul_neg, Int.natCast_add, Int.mul_add]; omega
 ·rw [if_neg h, if_neg (fun x => h x.1)]
  refine ((Int.ediv_emod_unique (r := (R : Int)) hd').2 ⟨by omega, by omega, by omega⟩).1
theorem floor_parts (q : Rat) : q.floor = if q.num < 0 then -((flN q : Nat) : Int) else ((flN q : Nat) : Int) := by
 rw [Rat.floor_def]
 exact floor_of q.den_pos rfl
theorem flQ_parts (q : Rat) : decide ((flQ q).num < 0) = (decide (q.num < 0) && !isZ (flN q)) ∧ (flQ q).num.natAbs = flN q ∧ (flQ q).den = 1 := by
 have h := floor_parts q
 unfold flQ
 rw [Rat.num_intCast, Rat.den_intCast]
 refine ⟨?_, ?_, rfl⟩
 ·rw [Bool.eq_iff_iff]
  unfold isZ
  simp only [Bool.and_eq_true, Bool.not_eq_true', decide_eq_true_eq, decide_eq_false_iff_not]
  split at h <;> omega
 ·split at h <;> omega
theorem flN_le (q : Rat) : flN q ≤ q.num.natAbs + 1 := by
 have := Nat.div_le_self q.num.natAbs q.den
 unfold flN
 split <;> omega
theorem dig_floor {K : Nat} {q : Rat} (h : Dig K q) : Dig (K + 1) (flQ q) := by
 obtain ⟨-, h2, h3⟩ := flQ_parts q
 have h4 := flN_le q
 have h5 := h.n
 have h6 : 1 ≤ 10 ^ K := Nat.pow_pos (by omega)
 refine ⟨?_, ?_⟩
 ·rw [h2, Nat.pow_succ]; omega
 ·rw [h3, Nat.pow_succ]; omega
theorem isZ_iff0 (R : Nat) : isZ R = true ↔ R = 0 := by unfold isZ; simp
theorem q_Floor1 (w : World) (v : Value) (q : Rat) (g1 : Nat) (hp : IsQ .u64 w v q) (K : Nat) (hK : K ≤ 4000) (hK0 : 0 < K) (hd : Dig K q) (hL : Lay w) (c1 : w.cell? ⟨g1, 0, none⟩ = some (.bool false)) :
 Calls Tryz.prog 155 #[v, .pointer (some ⟨g1, 0, none⟩)] w fun e w' => e = .returned (.tuple #[.string (outB (flQ q)), .int .i64 (outE (flQ q))]) ∧ Below w.heap.size w w' := by
 have hdf := (dig_floor hd).lim (L := 1000000) (by omega)
 have F3 := fun V v hv hV => hid (f_Num V v (flQ q) hv hdf.1 hdf.2 hV)
 have hq1 := hd.lim (L := 1000000) (by omega)
 have PD := fun V v u h1 h2 => hid (l_DivMod V v u q.num.natAbs q.den h1 h2 q.den_pos hq1.1)
 have PO := fun V => hid (l_Of V 1 (by omega))
 have hqq : (limbs (q.num.natAbs / q.den)).length ≤ 1000000 := by
  have h1 : q.num.natAbs / q.den < 10 ^ K := Nat.lt_of_le_of_lt (Nat.div_le_self _ _) hd.n
  have h2 : Dig K (((q.num.natAbs / q.den : Nat) : Rat)) := ⟨by rw [Rat.num_natCast]; exact h1, by rw [Rat.den_natCast]; exact Nat.one_lt_pow (by omega) (by omega)⟩
  have h3 := (h2.lim (L := 1000000) (by omega)).1
  rw [Rat.num_natCast] at h3
  exact h3
 have h1l : (limbs 1).length ≤ 1000000 := (dig_one.lim (L := 1000000) (by omega)).2
 have PA := fun V v u h1 h2 => hid (l_Add V v u (q.num.natAbs / q.den) 1 h1 h2 hqq h1l)
 obtain ⟨p1, p2, p3⟩ := flQ_parts q
 have hN : flN q = if q.num < 0 ∧ q.num.natAbs % q.den ≠ 0 then q.num.natAbs / q.den + 1 else q.num.natAbs / q.den := rfl
 have HQ := hid (show ∀ W x y, IsN .u64 W x (flN q) → IsN .u64 W y 1 → IsQ .u64 W (.agg #[.bool (decide (q.num < 0) && !isZ (flN q)), x, y]) (flQ q) from fun W x y hx hy => ⟨x, y, by rw [p1], by rw [p2]; exact hx, by rw [p3]; exact hy⟩)
 have PZ := fun V v k h => hid (l_Zero V v k h)
 obtain ⟨B, hB⟩ : ∃ B, outB (flQ q) = B := ⟨_, rfl⟩
 obtain ⟨E, hE⟩ : ∃ E, outE (flQ q) = E := ⟨_, rfl⟩
 rw [hB, hE] at F3
 rw [hB, hE]
 clear hB hE p1 p2 p3 hdf hq1 hqq h1l
 have HL := hid hL
 obtain ⟨N1, D1, rfl, hn1, hd1⟩ := hp.ex
 obtain ⟨a1, c1', rfl, _⟩ := hn1.openI
 obtain ⟨a2, c2', rfl, _⟩ := hd1.openI
 obtain ⟨k1, hk1⟩ : ∃ k, (limbs q.num.natAbs).length = k := ⟨_, rfl⟩
 obtain ⟨k2, hk2⟩ : ∃ k, (limbs q.den).length = k := ⟨_, rfl⟩
 obtain ⟨m, hm⟩ : ∃ m, decide (q.num < 0) = m := ⟨_, rfl⟩
 have hmm : q.num < 0 ↔ m = true := by rw [← hm]; simp
 simp only [hmm] at hN
 rw [hk1, hk2, hm] at hp ⊢
 rw [hk1] at hn1
 rw [hk2] at hd1
 rw [hm] at HQ
 obtain ⟨F, hF⟩ : ∃ F, flN q = F := ⟨_, rfl⟩
 rw [hF] at HQ hN
 obtain ⟨Q, hQ⟩ : ∃ Q, q.num.natAbs / q.den = Q := ⟨_, rfl⟩
 obtain ⟨R, hR⟩ : ∃ R, q.num.natAbs % q.den = R := ⟨_, rfl⟩
 rw [hQ, hR] at PD hN
 rw [hQ] at PA
 have N0 := hid hn1; have D0 := hid hd1; have HNN := hid hN
 have A1 := hid ((Below.refl w.heap.size w).alloc (Nat.le_refl _) (.cells #[.bool m, .slice a1 k1 c1', .slice a2 k2 c2'] 57))
 have X1 := hid (Blk.new w #[.bool m, .slice a1 k1 c1', .slice a2 k2 c2'] 57)
 have C1 := hid c1
 have g1lt : g1 < w.heap.size := cell_lt c1
 have G1 := hid g1lt
 clear hn1 hd1 hp hk1 hk2 hm hmm hF hQ hR hL hd hN
 have c1x := (A1.out.cell (p := ⟨g1, 0, none⟩) G1.out).trans C1.out
 have r0 := X1.out.cell 0
 have r1 := X1.out.cell 1
 have r2 := X1.out.cell 2
 simp at r0 r1 r2
 clear c1 g1lt
 go_enter Tryz.func155, Tryz.ntmps155
 go_wp2_with fail
 refine (PD _ _ _ (N0.out.call A1.out) (D0.out.call A1.out)).out.mono ?_; rintro e w1 ⟨⟨v1, v2, rfl, hv1, hv2⟩, hb1⟩
 obtain ⟨a3, c3, rfl, _⟩ := hv1.openI
 obtain ⟨a4, c4, rfl, _⟩ := hv2.openI
 have x1 := hid (X1.out.call hb1); have y1 := hid (bnext A1.out hb1)
 have V1 := hid hv1; have V2 := hid hv2
 clear hb1 hv1 hv2 c1x r0 r1 r2
 go_wp2_with fail
 refine (PZ _ _ _ V2.out).out.mono ?_; rintro e w2 ⟨rfl, rfl⟩
 have c1x := (y1.out.cell (p := ⟨g1, 0, none⟩) G1.out).trans C1.out
 have r0 := x1.out.cell 0
 simp at r0
 have HZ := isZ_iff0 R
 cases hz : isZ R <;> cases m
 ·have hF : F = Q := by rw [HNN.out, if_neg (by simp)]
  clear HNN HZ
  subst hF
  go_wp2_with fail
  refine (PO _).out.mono ?_; rintro e w7 ⟨⟨u7, rfl, hu7⟩, hb7⟩
  have y7 := hid (bnext y1.out hb7); have V7 := hid (V1.out.call hb7)
  obtain ⟨a7, c7, rfl, _⟩ := hu7.openI
  have Q7 := hid (HQ.out w7 _ _ V7.out hu7)
  have L7 := hid (HL.out.call y7.out)
  clear hb7 hu7
  go_wp2_with fail
  refine (F3 _ _ Q7.out L7.out).out.mono ?_; rintro e w8 ⟨rfl, hb8⟩
  have y8 := hid (bnext y7.out hb8)
  clear hb8
  go_wp2_with fail
  go_ret2
  exact ⟨rfl, y8.out⟩
 ·have hF : F = Q + 1 := by rw [HNN.out, if_pos ⟨rfl, fun e => by rw [HZ.2 e] at hz; cases hz⟩]
  clear HNN HZ
  subst hF
  go_wp2_with fail
  refine (PO _).out.mono ?_; rintro e w3 ⟨⟨u3, rfl, hu3⟩, hb3⟩
  have y3 := hid (bnext y1.out hb3); have V3 := hid (V1.out.call hb3); have U3 := hid hu3
  have x3 := hid (x1.out.call hb3)
  obtain ⟨a5, c5, rfl, _⟩ := hu3.openI
  clear hb3 hu3 r0
  go_wp2_with fail
  refine (PA _ _ _ V3.out U3.out).out.mono ?_; rintro e w4 ⟨⟨u4, rfl, hu4⟩, hb4⟩
  have y4 := hid (bnext y3.out hb4); have V4 := hid hu4
  have x4 := hid (x3.out.call hb4)
  obtain ⟨a6, c6, rfl, _⟩ := hu4.openI
  clear hb4 hu4
  have q0 := x4.out.cell 0
  simp at q0
  go_wp2_with fail
  refine (PZ _ _ _ V4.out).out.mono ?_; rintro e w5 ⟨rfl, rfl⟩
  cases hz2 : isZ (Q + 1)
  ·go_wp2_with fail
   refine (PO _).out.mono ?_; rintro e w7 ⟨⟨u7, rfl, hu7⟩, hb7⟩
   have y7 := hid (bnext y4.out hb7); have V7 := hid (V4.out.call hb7)
   obtain ⟨a7, c7, rfl, _⟩ := hu7.openI
   have Q7 := hid (HQ.out w7 _ _ V7.out hu7)
   rw [hz2] at Q7
   have L7 := hid (HL.out.call y7.out)
   clear hb7 hu7
   go_wp2_with fail
   refine (F3 _ _ Q7.out L7.out).out.mono ?_; rintro e w8 ⟨rfl, hb8⟩
   have y8 := hid (bnext y7.out hb8)
   clear hb8
   go_wp2_with fail
   go_ret2
   exact ⟨rfl, y8.out⟩
  ·go_wp2_with fail
   refine (PO _).out.mono ?_; rintro e w7 ⟨⟨u7, rfl, hu7⟩, hb7⟩
   have y7 := hid (bnext y4.out hb7); have V7 := hid (V4.out.call hb7)
   obtain ⟨a7, c7, rfl, _⟩ := hu7.openI
   have Q7 := hid (HQ.out w7 _ _ V7.out hu7)
   rw [hz2] at Q7
   have L7 := hid (HL.out.call y7.out)
   clear hb7 hu7
   go_wp2_with fail
   refine (F3 _ _ Q7.out L7.out).out.mono ?_; rintro e w8 ⟨rfl, hb8⟩
   have y8 := hid (bnext y7.out hb8)
   clear hb8
   go_wp2_with fail
   go_ret2
   exact ⟨rfl, y8.out⟩
 ·have hF : F = Q := by rw [HNN.out, if_neg (by simp)]
  clear HNN HZ
  subst hF
  go_wp2_with fail
  refine (PO _).out.mono ?_; rintro e w7 ⟨⟨u7, rfl, hu7⟩, hb7⟩
  have y7 := hid (bnext y1.out hb7); have V7 := hid (V1.out.call hb7)
  obtain ⟨a7, c7, rfl, _⟩ := hu7.openI
  have Q7 := hid (HQ.out w7 _ _ V7.out hu7)
  have L7 := hid (HL.out.call y7.out)
  clear hb7 hu7
  go_wp2_with fail
  refine (F3 _ _ Q7.out L7.out).out.mono ?_; rintro e w8 ⟨rfl, hb8⟩
  have y8 := hid (bnext y7.out hb8)
  clear hb8
  go_wp2_with fail
  go_ret2
  exact ⟨rfl, y8.out⟩
 ·have hF : F = Q := by rw [HNN.out, if_neg (fun h => h.2 (HZ.1 hz))]
  clear HNN HZ
  subst hF
  go_wp2_with fail
  refine (PZ _ _ _ V1.out).out.mono ?_; rintro e w5 ⟨rfl, rfl⟩
  cases hz2 : isZ F
  ·go_wp2_with fail
   refine (PO _).out.mono ?_; rintro e w7 ⟨⟨u7, rfl, hu7⟩, hb7⟩
   have y7 := hid (bnext y1.out hb7); have V7 := hid (V1.out.call hb7)
   obtain ⟨a7, c7, rfl, _⟩ := hu7.openI
   have Q7 := hid (HQ.out w7 _ _ V7.out hu7)
   rw [hz2] at Q7
   have L7 := hid (HL.out.call y7.out)
   clear hb7 hu7
   go_wp2_with fail
   refine (F3 _ _ Q7.out L7.out).out.mono ?_; rintro e w8 ⟨rfl, hb8⟩
   have y8 := hid (bnext y7.out hb8)
   clear hb8
   go_wp2_with fail
   go_ret2
   exact ⟨rfl, y8.out⟩
  ·go_wp2_with fail
   refine (PO _).out.mono ?_; rintro e w7 ⟨⟨u7, rfl, hu7⟩, hb7⟩
   have y7 := hid (bnext y1.out hb7); have V7 := hid (V1.out.call hb7)
   obtain ⟨a7, c7, rfl, _⟩ := hu7.openI
   have Q7 := hid (HQ.out w7 _ _ V7.out hu7)
   rw [hz2] at Q7
   have L7 := hid (HL.out.call y7.out)
   clear hb7 hu7
   go_wp2_with fail
   refine (F3 _ _ Q7.out L7.out).out.mono ?_; rintro e w8 ⟨rfl, hb8⟩
   have y8 := hid (bnext y7.out hb8)
   clear hb8
   go_wp2_with fail
   go_ret2
   exact ⟨rfl, y8.out⟩
def floB (s : ByteArray) : ByteArray := wB (outB (flQ (vQ s))) s
def floE (s : ByteArray) : Int := wE (outE (flQ (vQ s))) s
theorem q_round (w : World) (s : ByteArray) (hs : s.size ≤ 1000000) (hL : Lay w) :
 Calls Tryz.prog 114 #[.string s, .bool false] w fun e w' => e = .returned (.tuple #[.string (floB s), .int .i64 (floE s)]) ∧ Below w.heap.size w w' := by
 have HL := hid hL
 have b1 := hid ((Below.refl w.heap.size w).alloc (Nat.le_refl _) (.cells #[.bool false] 4))
 have X1 := hid (Blk.new w #[.bool false] 4)
 obtain ⟨g1, hg1⟩ : ∃ g, w.heap.size = g := ⟨_, rfl⟩
 obtain ⟨w1, hw1⟩ : ∃ w1, w.alloc (.cells #[.bool false] 4) = w1 := ⟨_, rfl⟩
 have L1 := hid (HL.out.call b1.out)
 rw [hw1] at b1 X1 L1
 rw [hg1] at X1
 have W1 := hid (q_with w1 s 155 #[.pointer (some ⟨g1, 0, none⟩)] (outB (flQ (vQ s))) (outE (flQ (vQ s))) hs L1.out (enters_of Tryz.func155 (by kernel_rfl) rfl)
  (fun W v hq hb hv hLW => q_Floor1 W v (vQ s) g1 hv 4000 (Nat.le_refl _) (by omega) (dig_q4 hq) hLW ((X1.out.call hb).cell 0)))
 have e1 : wB (outB (flQ (vQ s))) s = floB s := rfl
 have e2 : wE (outE (flQ (vQ s))) s = floE s := rfl
 rw [e1, e2] at W1
 obtain ⟨B, hB⟩ : ∃ B, floB s = B := ⟨_, rfl⟩
 obtain ⟨E, hE⟩ : ∃ E, floE s = E := ⟨_, rfl⟩
 rw [hB, hE] at W1
 rw [hB, hE]
 clear hB hE hs hL e1 e2
 go_enter Tryz.func114, Tryz.ntmps114
 go_wp2_with fail
 refine W1.out.mono ?_; rintro e w2 ⟨rfl, hb2⟩
 have y2 := hid (bnext b1.out hb2)
 clear hb2
 go_wp2_with fail
 go_ret2
 exact ⟨rfl, y2.out⟩
theorem q_Floor (w : World) (s : ByteArray) (hs : s.size ≤ 1000000) (hL : Lay w) :
 Calls Tryz.prog 65 #[.string s] w fun e w' => e = .returned (.tuple #[.string (floB s), .int .i64 (floE s)]) ∧ Below w.heap.size w w' := by
 have W1 := hid (q_round w s hs hL)
 obtain ⟨B, hB⟩ : ∃ B, floB s = B := ⟨_, rfl⟩
 obtain ⟨E, hE⟩ : ∃ E, floE s = E := ⟨_, rfl⟩
 rw [hB, hE] at W1
 rw [hB, hE]
 clear hB hE hs hL
 go_enter Tryz.func65, Tryz.ntmps65
 go_wp2_with fail
 refine W1.out.mono ?_; rintro e w2 ⟨rfl, hb2⟩
 have y2 := hid hb2
 clear hb2
 go_wp2_with fail
 go_ret2
 exact ⟨rfl, y2.out⟩
end Go.Proofs.YtlimaehdmcnjaaaGreatDoor
namespace Go.Proofs.YtlimaehdmcnjaaaGreatDoor
open Go.RowKit
open Go.Lib (decDigits nDigits)
def alQ (qs : List Rat) (i : Nat) : Rat := rs qs - rs ((qs.take i).map flQ)
theorem al_zero (qs : List Rat) : alQ qs 0 = rs qs := by
 unfold alQ
 rw [List.take_zero, List.map_nil]
 show rs qs - 0 = _
 grind
theorem al_step {qs : List Rat} {i : Nat} {q : Rat} (h : qs[i]? = some q) : alQ qs (i + 1) = alQ qs i - flQ q := by
 unfold alQ
 rw [List.take_add_one, h, Option.toList_some, List.map_append, List.map_cons, List.map_nil, rs_append]
 show _ - (_ + (flQ q + 0)) = _
 grind
theorem rs_fl : ∀ qs : List Rat, rs qs - rs (qs.map flQ) = rs (qs.map fpt)
 | [] => by show (0 : Rat) - 0 = 0; grind
 | q :: r => by
  have := rs_fl r
  rw [List.map_cons, List.map_cons, rs, rs, rs, ← this]
  unfold fpt flQ
  grind
theorem al_end (qs : List Rat) : alQ qs qs.length = rs (qs.map fpt) := by
 unfold alQ
 rw [List.take_length, rs_fl]
theorem rs_fpt : ∀ qs : List Rat, 0 ≤ rs (qs.map fpt) ∧ rs (qs.map fpt) ≤ ((qs.length : Nat) : Rat)
 | [] => ⟨by show (0 : Rat) ≤ 0; grind, by show (0 : Rat) ≤ ((0 : Nat) : Rat); exact Rat.le_refl⟩
 | q :: r => by
  obtain ⟨h1, h2⟩ := rs_fpt r
  have h3 := fpt_nn q
  have h4 := fpt_lt q
  rw [List.map_cons, rs, List.length_cons]
  have e : ((r.length + 1 : Nat) : Rat) = ((r.length : Nat) : Rat) + 1 := by rw [Rat.natCast_add]; rfl
  rw [e]
  constructor <;> grind
theorem rdM_le {qs : List Rat} (h : (rs qs).den = 1) : rdM qs ≤ qs.length ∧ rs (qs.map fpt) = ((rdM qs : Nat) : Rat) := by
 obtain ⟨h1, h2⟩ := rs_fpt qs
 have hi : rs (qs.map fpt) = (((rs qs).num - (qs.map Rat.floor).sum : Int) : Rat) := by
  rw [← rs_fl]
  have e1 : rs qs = (((rs qs).num : Int) : Rat) := by
   conv => lhs; rw [← Rat.mkRat_self (rs qs), h, Rat.mkRat_one]
  have e2 : ∀ l : List Rat, rs (l.map flQ) = (((l.map Rat.floor).sum : Int) : Rat) := by
   intro l
   induction l with
   | nil => rfl
   | cons a l ih =>
    rw [List.map_cons, List.map_cons, rs, ih, List.sum_cons, Rat.intCast_add]; rfl
  rw [e2, Rat.intCast_sub, ← e1]
 obtain ⟨z, hz⟩ : ∃ z, (rs qs).num - (qs.map Rat.floor).sum = z := ⟨_, rfl⟩
 rw [hz] at hi
 have hz0 : 0 ≤ z := by
  rw [hi] at h1
  exact Rat.intCast_nonneg.1 h1
 have hz1 : z ≤ (qs.length : Nat) := by
  rw [hi] at h2
  exact Rat.intCast_le_intCast.1 h2
 have e : rdM qs = z.natAbs := by unfold rdM; rw [hi, Rat.num_intCast]
 refine ⟨by omega, ?_⟩
 rw [hi, e]
 have : z = ((z.natAbs : Nat) : Int) := by omega
 conv => lhs; rw [this]
 rfl
def upL (qs : List Rat) (S : List Nat) : List Int := (List.range qs.length).map fun i => (qs.getD i 0).floor + if i ∈ S then 1 else 0
theorem upL_end (qs : List Rat) (m : Nat) : upL qs (rdO qs m) = rdL qs m := rfl
theorem upL_len (qs : List Rat) (S : List Nat) : (upL qs S).length = qs.length := by simp [upL]
theorem upL_nil (qs : List Rat) : upL qs [] = qs.map Rat.floor := by
 unfold upL
 apply List.ext_getElem?
 intro i
 rw [List.getElem?_map, List.getElem?_map]
 by_cases h : i < qs.length
 ·rw [List.getElem?_range h, List.getElem?_eq_getElem h]; simp [List.getD_eq_getElem?_getD, h]
 ·rw [List.getElem?_eq_none (by simpa using h), List.getElem?_eq_none (by omega)]; rfl
theorem upL_get {qs : List Rat} {S : List Nat} {i : Nat} (h : i < qs.length) (hi : i ∉ S) : (upL qs S)[i]? = some (qs.getD i 0).floor := by
 unfold upL
 rw [List.getElem?_map, List.getElem?_range h]
 simp [hi]
theorem upL_set {qs : List Rat} {S : List Nat} {i : Nat} (h : i < qs.length) (hi : i ∉ S) : (upL qs S).set i ((qs.getD i 0).floor + 1) = upL qs (S ++ [i]) := by
 apply List.ext_getElem?
 intro k
 rw [List.getElem?_set, upL_len]
 by_cases hk : i = k
 ·subst hk
  rw [if_pos rfl, if_pos h]
  unfold upL
  rw [List.getElem?_map, List.getElem?_range h]
  simp
 ·rw [if_neg hk]
  unfold upL
  rw [List.getElem?_map, List.getElem?_map]
  by_cases h2 : k < qs.length
  ·rw [List.getElem?_range h2]
   have hk2 : ¬ k = i := fun e => hk e.symm
   simp [hk2]
  ·rw [List.getElem?_eq_none (by simpa using h2)]; rfl
theorem key_fpt (qs : List Rat) : (fun i => (qs.map fpt).getD i 0) = fun i => fpt (qs.getD i 0) := by
 funext i
 rw [List.getD_eq_getElem?_getD, List.getD_eq_getElem?_getD, List.getElem?_map]
 cases qs[i]? with
 | none => show (0 : Rat) = fpt 0; unfold fpt; rw [show (0 : Rat).floor = 0 from rfl]; grind
 | some q => rfl
theorem rdO_take (qs : List Rat) (m : Nat) : (dsort (fun i => (qs.map fpt).getD i 0) (List.range qs.length)).take m = rdO qs m := by rw [key_fpt]; rfl
theorem take_new {S : List Nat} (hn : S.Nodup) {t i : Nat} (h : S[t]? = some i) : i ∉ S.take t ∧ S.take (t + 1) = S.take t ++ [i] := by
 refine ⟨fun hm => ?_, by rw [List.take_add_one, h, Option.toList_some]⟩
 obtain ⟨k, hk⟩ := List.getElem?_of_mem hm
 have hkt : k < t := by have := (List.getElem?_eq_some_iff.1 hk).1; rw [List.length_take] at this; omega
 rw [List.getElem?_take, if_pos hkt] at hk
 have h1 := (List.getElem?_eq_some_iff.1 hk).1
 have h2 := (List.getElem?_eq_some_iff.1 h).1
 have := (List.pairwise_iff_getElem.1 hn) k t h1 h2 hkt
 rw [(List.getElem?_eq_some_iff.1 hk).2, (List.getElem?_eq_some_iff.1 h).2] at this
 exact this rfl
open Go.Shelf
theorem make_intsR (n : Nat) (hn : n ≤ 3000000) (W : World) : (Instr.makeSlice 41 (.int .i64 (n : Int)) (.int .i64 (n : Int))).run Tryz.prog W = .ok (.slice (some ⟨W.heap.size, 0, none⟩) n n) (W.alloc (.cells (madeCells #[.int .i64 0] n) 3)) :=
 run_make_row' (P := Tryz.prog) 41 3 (.int .i64 0) 8 Tryz.underlying41 (by kernel_rfl) rfl .i64 .i64 n (by omega) (by omega) W
theorem zs_setR (l : List Int) (i : Nat) (x : Int) : (zs l).set i (.int .i64 x) = zs (l.set i x) := by simp [zs, List.map_set]
theorem zs_nats (l : List Nat) : zs (l.map fun (x : Nat) => (x : Int)) = ints .i64 l := by simp [zs, ints]
def ZRow (B : Nat) (W : World) (g N : Nat) (zl : List Int) : Prop := W.ownsRow B 3 1 (.slice (some ⟨g, 0, none⟩) N N) N (zs zl)
theorem ZRow.call {B : Nat} {W W' : World} {g N : Nat} {zl : List Int} (h : ZRow B W g N zl) (hb : Below W.heap.size W W') : ZRow B W' g N zl := owns_call h hb
theorem ZRow.lt {B : Nat} {W : World} {g N : Nat} {zl : List Int} (h : ZRow B W g N zl) : B ≤ g ∧ g < W.heap.size := World.ownsRow.lt h g rfl
theorem ZRow.blk {B : Nat} {W : World} {g N : Nat} {zl : List Int} (h : ZRow B W g N zl) : Blk W g (zs zl).toArray 3 ∧ zl.length = N := by
 have h1 := h.1
 rcases h.2 with ⟨h0, -⟩ | ⟨g', cap, cur, e, hb, h2, h3, h4, h5, h6⟩
 ·cases h0
 ·injection e with e1 e2 e3
  have eg : g = g' := by simpa using e1
  subst eg e3
  have hl : cur.toList = zs zl := by rw [← h6, List.take_of_length_le (by rw [Array.length_toList, h5]; omega)]
  refine ⟨?_, by simpa using h1⟩
  have : cur = (zs zl).toArray := by rw [← hl]
  rw [← this]; exact h2
theorem ZRow.new {B : Nat} {W : World} {g N : Nat} {zl : List Int} (h : Blk W g (zs zl).toArray 3) (hl : zl.length = N) (hB : B ≤ g) (hN : N ≤ 1000000) : ZRow B W g N zl :=
 ⟨by rw [zs_length, hl]; omega, .inr ⟨g, N, _, rfl, hB, h, Nat.le_refl _, by unfold maxLen; omega, by simp [hl], by rw [List.take_of_length_le (by simp [hl])]⟩⟩
theorem nok_zs (zl : List Int) : NoK .u64 (zs zl).toArray := NoK.of fun x hx => by
 simp only [zs] at hx
 obtain ⟨y, -, hy⟩ := List.mem_map.1 hx
 cases hy
theorem ZRow.at_ {B : Nat} {W : World} {g N : Nat} {zl : List Int} (h : ZRow B W g N zl) {i : Nat} {x : Int} (hx : zl[i]? = some x) : W.cell? ⟨g, i, none⟩ = some (.int .i64 x) := by
 rw [h.blk.1.cell, List.getElem?_toArray]
 exact zs_get hx
theorem ZRow.free {B : Nat} {W : World} {g N : Nat} {zl : List Int} (h : ZRow B W g N zl) (j : Nat) : W.frozen? ⟨g, j, none⟩ = false := Blk.free h.blk.1 j
theorem ZRow.put {B : Nat} {W : World} {g N : Nat} {zl : List Int} (h : ZRow B W g N zl) (i : Nat) (x : Int) : ZRow B (W.setCell ⟨g, i, none⟩ (.int .i64 x)) g N (zl.set i x) ∧ KeepK .u64 W (W.setCell ⟨g, i, none⟩ (.int .i64 x)) := by
 refine ⟨?_, KeepK.set h.blk.1 (nok_zs zl) i _⟩
 have := own_set h i (.int .i64 x)
 rw [zs_setR] at this
 exact this
theorem ZRow.keep {B : Nat} {W W' : World} {g N : Nat} {zl : List Int} (h : ZRow B W g N zl) (hg : W'.heap[g]? = W.heap[g]?) : ZRow B W' g N zl := ownsRow_keep h fun g' hg' => by
 obtain rfl : g = g' := by simpa [Value.ownBlock] using hg'
 exact hg
theorem ZRow.ints {B : Nat} {W : World} {g N : Nat} {ns : List Nat} (h : ZRow B W g N (ns.map fun (x : Nat) => (x : Int))) : IRow B W g N N ns := by
 unfold ZRow at h
 rw [zs_nats] at h
 exact h
theorem IRow.zs_ {B : Nat} {W : World} {g N : Nat} {ns : List Nat} (h : IRow B W g N N ns) : ZRow B W g N (ns.map fun (x : Nat) => (x : Int)) := by
 unfold ZRow
 rw [zs_nats]
 exact h
structure PRow (B : Nat) (W : World) (g N : Nat) (ps : List Rat) : Prop where
 ex : ∃ cs, KRow .u64 57 3 B W (.slice (some ⟨g, 0, none⟩) N N) cs ∧ cs.length = N ∧ ps.length ≤ N ∧ QL .u64 W (cs.take ps.length) ps
theorem rp3_flat (x y z : Value) (N : Nat) : rp3 x y z N = (List.replicate N [x, y, z]).flatten := rfl
theorem PRow.new {B : Nat} {W : World} {g N : Nat} (h : Blk W g (rp3 (.bool false) zz zz N).toArray 57) (hB : B ≤ g) (hN : N ≤ 1000000) : PRow B W g N [] := by
 refine ⟨List.replicate N [.bool false, zz, zz], ⟨?_, ?_, ?_⟩, by simp, by simp, ?_⟩
 ·rw [← rp3_flat, List.length_replicate]
  exact ⟨by rw [rp3_len], .inr ⟨g, N, _, rfl, hB, h, Nat.le_refl _, by unfold maxLen; omega, by simp [rp3_len], by rw [List.take_of_length_le (by simp [rp3_len])]⟩⟩
 ·intro c hc; rw [List.eq_of_mem_replicate hc]; rfl
 ·intro g' hg'
  obtain rfl : g = g' := by simpa [Value.ownBlock] using hg'
  refine ⟨_, h, NoK.of fun x hx => ?_⟩
  rcases rp3_mem (List.mem_toArray.1 (Array.mem_toList_iff.1 hx)) with e | e | e <;> cases e
 ·rw [List.length_nil, List.take_zero]; exact QL.nil _ _
theorem PRow.call {B : Nat} {W W' : World} {g N : Nat} {ps : List Rat} (h : PRow B W g N ps) (hb : Below W.heap.size W W') : PRow B W' g N ps := by
 obtain ⟨cs, h1, h2, h3, h4⟩ := h.ex
 exact ⟨cs, h1.call hb, h2, h3, h4.call hb⟩
theorem PRow.keep {B : Nat} {W W' : World} {g N : Nat} {ps : List Rat} (h : PRow B W g N ps) (hk : KeepK .u64 W W') (hg : W'.heap[g]? = W.heap[g]?) : PRow B W' g N ps := by
 obtain ⟨cs, h1, h2, h3, h4⟩ := h.ex
 exact ⟨cs, h1.keep fun g' hg' => by
  obtain rfl : g = g' := by simpa [Value.ownBlock] using hg'
  exact hg, h2, h3, h4.keep hk⟩
theorem PRow.lt {B : Nat} {W : World} {g N : Nat} {ps : List Rat} (h : PRow B W g N ps) : B ≤ g ∧ g < W.heap.size := by
 obtain ⟨cs, h1, -⟩ := h.ex
 exact World.ownsRow.lt h1.own g rfl
theorem PRow.free {B : Nat} {W : World} {g N : Nat} {ps : List Rat} (h : PRow B W g N ps) (j : Nat) : W.frozen? ⟨g, j, none⟩ = false := by
 obtain ⟨cs, h1, -⟩ := h.ex
 exact h1.free j
theorem PRow.full {B : Nat} {W : World} {g N : Nat} {ps : List Rat} (h : PRow B W g N ps) (hl : ps.length = N) : VRow B W (.slice (some ⟨g, 0, none⟩) N N) ps := by
 obtain ⟨cs, h1, h2, h3, h4⟩ := h.ex
 rw [List.take_of_length_le (by omega)] at h4
 exact ⟨cs, h1, h4⟩
theorem PRow.put {B : Nat} {W : World} {g N : Nat} {ps : List Rat} (h : PRow B W g N ps) {i : Nat} (hi : ps.length = i) (hN : i < N) {m : Bool} {a1 a2 : Option Addr} {n1 c1 n2 c2 : Nat} {q : Rat} (hq : IsQ .u64 W (.agg #[.bool m, .slice a1 n1 c1, .slice a2 n2 c2]) q) :
 PRow B (((W.setCell ⟨g, i * 3, none⟩ (.bool m)).setCell ⟨g, i * 3 + 1, none⟩ (.slice a1 n1 c1)).setCell ⟨g, i * 3 + 2, none⟩ (.slice a2 n2 c2)) g N (ps ++ [q]) ∧
 KeepK .u64 W (((W.setCell ⟨g, i * 3, none⟩ (.bool m)).setCell ⟨g, i * 3 + 1, none⟩ (.slice a1 n1 c1)).setCell ⟨g, i * 3 + 2, none⟩ (.slice a2 n2 c2)) := by
 subst hi
 obtain ⟨cs, h1, h2, h3, h4⟩ := h.ex
 obtain ⟨i, hi⟩ : ∃ i, ps.length = i := ⟨_, rfl⟩
 rw [hi] at hN h3 h4 ⊢
 have hl : i < cs.length := by omega
 obtain ⟨d, hd⟩ : ∃ d, cs[i]? = some d := ⟨_, List.getElem?_eq_getElem hl⟩
 have hd3 := h1.all d (List.mem_of_getElem? hd)
 obtain ⟨x, y, z, rfl⟩ : ∃ x y z, d = [x, y, z] := by
  match d, hd3 with
  | [x, y, z], _ => exact ⟨x, y, z, rfl⟩
 have s1 := h1.set hd (j := 0) (by omega) (u := .bool m) (fun x e => by cases e)
 have e1 : (cs.set i ([x, y, z].set 0 (.bool m)))[i]? = some [.bool m, y, z] := by rw [List.getElem?_set_self hl]; rfl
 have s2 := s1.set e1 (j := 1) (by omega) (u := .slice a1 n1 c1) (fun x e => by cases e)
 rw [List.set_set] at s2
 have e2 : (cs.set i ([.bool m, y, z].set 1 (.slice a1 n1 c1)))[i]? = some [.bool m, .slice a1 n1 c1, z] := by rw [List.getElem?_set_self hl]; rfl
 have s3 := s2.set e2 (j := 2) (by omega) (u := .slice a2 n2 c2) (fun x e => by cases e)
 rw [List.set_set] at s3
 have k := ((h1.keepSet (i * 3) (.bool m)).trans (s1.keepSet (i * 3 + 1) (.slice a1 n1 c1))).trans (s2.keepSet (i * 3 + 2) (.slice a2 n2 c2))
 refine ⟨⟨_, s3, by rw [List.length_set]; exact h2, by rw [List.length_append, List.length_singleton]; omega, ?_⟩, k⟩
 rw [List.length_append, List.length_singleton, hi, List.take_add_one, List.getElem?_set_self hl, Option.toList_some, List.take_set_of_le (Nat.le_refl _)]
 exact (h4.keep k).snoc ((QC.of hq).keep k)
structure RdS (B : Nat) (W : World) (N g8 gp g9 g10 : Nat) (zl : List Int) (ps : List Rat) (ns : List Nat) : Prop where
 z : ZRow B W g8 N zl
 p : Blk W gp #[.slice (some ⟨g9, 0, none⟩) N N] 53
 r : PRow B W g9 N ps
 o : ZRow B W g10 N (ns.map fun (x : Nat) => (x : Int))
 bp : B ≤ gp
 n1 : g8 ≠ gp
 n2 : g8 ≠ g9
 n3 : g8 ≠ g10
 n4 : gp ≠ g9
 n5 : gp ≠ g10
 n6 : g9 ≠ g10
theorem RdS.call {B : Nat} {W W' : World} {N g8 gp g9 g10 : Nat} {zl : List Int} {ps : List Rat} {ns : List Nat} (h : RdS B W N g8 gp g9 g10 zl ps ns) (hb : Below W.heap.size W W') : RdS B W' N g8 gp g9 g10 zl ps ns :=
 ⟨h.z.call hb, h.p.call hb, h.r.call hb, h.o.call hb, h.bp, h.n1, h.n2, h.n3, h.n4, h.n5, h.n6⟩
theorem RdS.keep {B : Nat} {W W' : World} {N g8 gp g9 g10 : Nat} {zl : List Int} {ps : List Rat} {ns : List Nat} (h : RdS B W N g8 gp g9 g10 zl ps ns) (hk : KeepK .u64 W W') {b : Nat} (hb : ∀ g, g ≠ b → W'.heap[g]? = W.heap[g]?) (h1 : g8 ≠ b) (h2 : gp ≠ b) (h3 : g9 ≠ b) (h4 : g10 ≠ b) : RdS B W' N g8 gp g9 g10 zl ps ns :=
 ⟨h.z.keep (hb _ h1), (hb _ h2).trans h.p, h.r.keep hk (hb _ h3), h.o.keep (hb _ h4), h.bp, h.n1, h.n2, h.n3, h.n4, h.n5, h.n6⟩
theorem heap_set1 (W : World) (b j : Nat) (x : Value) {g : Nat} (hg : g ≠ b) : (W.setCell ⟨b, j, none⟩ x).heap[g]? = W.heap[g]? := Below.heap_setCell _ _ _ _ hg
theorem heap_set3j (W : World) (b j k m : Nat) (x y z : Value) {g : Nat} (hg : g ≠ b) : (((W.setCell ⟨b, j, none⟩ x).setCell ⟨b, k, none⟩ y).setCell ⟨b, m, none⟩ z).heap[g]? = W.heap[g]? := by
 rw [Below.heap_setCell _ _ _ _ hg, Below.heap_setCell _ _ _ _ hg, Below.heap_setCell _ _ _ _ hg]
theorem RdS.putZ {B : Nat} {W : World} {N g8 gp g9 g10 : Nat} {zl : List Int} {ps : List Rat} {ns : List Nat} (h : RdS B W N g8 gp g9 g10 zl ps ns) (i : Nat) (x : Int) : RdS B (W.setCell ⟨g8, i, none⟩ (.int .i64 x)) N g8 gp g9 g10 (zl.set i x) ps ns ∧ KeepK .u64 W (W.setCell ⟨g8, i, none⟩ (.int .i64 x)) := by
 obtain ⟨h1, h2⟩ := h.z.put i x
 exact ⟨⟨h1, (heap_set1 W _ _ _ h.n1.symm).trans h.p, h.r.keep h2 (heap_set1 W _ _ _ h.n2.symm), h.o.keep (heap_set1 W _ _ _ h.n3.symm), h.bp, h.n1, h.n2, h.n3, h.n4, h.n5, h.n6⟩, h2⟩
theorem RdS.putO {B : Nat} {W : World} {N g8 gp g9 g10 : Nat} {zl : List Int} {ps : List Rat} {ns : List Nat} (h : RdS B W N g8 gp g9 g10 zl ps ns) (i x : Nat) : RdS B (W.setCell ⟨g10, i, none⟩ (.int .i64 (x : Nat))) N g8 gp g9 g10 zl ps (ns.set i x) ∧ KeepK .u64 W (W.setCell ⟨g10, i, none⟩ (.int .i64 (x : Nat))) := by
 obtain ⟨h1, h2⟩ := h.o.put i (x : Int)
 exact ⟨⟨h.z.keep (heap_set1 W _ _ _ h.n3), (heap_set1 W _ _ _ h.n5).trans h.p, h.r.keep h2 (heap_set1 W _ _ _ h.n6), by rw [List.map_set]; exact h1, h.bp, h.n1, h.n2, h.n3, h.n4, h.n5, h.n6⟩, h2⟩
theorem RdS.putP {B : Nat} {W : World} {N g8 gp g9 g10 : Nat} {zl : List Int} {ps : List Rat} {ns : List Nat} (h : RdS B W N g8 gp g9 g10 zl ps ns) {i : Nat} (hi : ps.length = i) (hN : i < N) {m : Bool} {a1 a2 : Option Addr} {n1 c1 n2 c2 : Nat} {q : Rat} (hq : IsQ .u64 W (.agg #[.bool m, .slice a1 n1 c1, .slice a2 n2 c2]) q) :
 RdS B (((W.setCell ⟨g9, i * 3, none⟩ (.bool m)).setCell ⟨g9, i * 3 + 1, none⟩ (.slice a1 n1 c1)).setCell ⟨g9, i * 3 + 2, none⟩ (.slice a2 n2 c2)) N g8 gp g9 g10 zl (ps ++ [q]) ns ∧
 KeepK .u64 W (((W.setCell ⟨g9, i * 3, none⟩ (.bool m)).setCell ⟨g9, i * 3 + 1, none⟩ (.slice a1 n1 c1)).setCell ⟨g9, i * 3 + 2, none⟩ (.slice a2 n2 c2)) := by
 obtain ⟨h1, h2⟩ := h.r.put hi hN hq
 exact ⟨⟨h.z.keep (heap_set3j W _ _ _ _ _ _ _ h.n2), (heap_set3j W _ _ _ _ _ _ _ h.n4).trans h.p, h1, h.o.keep (heap_set3j W _ _ _ _ _ _ _ h.n6.symm), h.bp, h.n1, h.n2, h.n3, h.n4, h.n5, h.n6⟩, h2⟩
end Go.Proofs.YtlimaehdmcnjaaaGreatDoor
namespace Go.Proofs
open Go.Shelf
def Tryz.lays172_ren : Go.Shelf.Ren := ⟨fun | 172 => 66 | 244 => 115 | 245 => 116 | 247 => 156 | 279 => 157 | 280 => 158 | 281 => 159 | 282 => 160 | 287 => 181 | 316 => 182 | 171 => 184 | 205 => 183 | 321 => 202 | 322 => 203 | 243 => 204 | 246 => 219 | 283 => 187 | 284 => 188 | 285 => 189 | 286 => 190 | 129 => 142 | 317 => 206 | 318 => 207 | 319 => 208 | 320 => 209 | 337 => 220 | 338 => 221 | n => n, fun | 9 => 9 | 3 => 3 | 75 => 89 | 76 => 90 | 4 => 4 | 5 => 5 | 167 => 176 | 37 => 136 | 0 => 0 | 85 => 177 | 2 => 2 | 168 => 179 | 53 => 122 | 175 => 190 | 46 => 118 | 210 => 205 | 127 => 185 | 145 => 229 | 143 => 227 | 21 => 21 | 171 => 210 | 173 => 212 | 212 => 232 | 51 => 161 | 20 => 20 | 213 => 233 | 232 => 243 | 233 => 244 | 80 => 94 | n => n, fun | 15 => 0 | 16 => 1 | 17 => 2 | 18 => 4 | 19 => 5 | n => n⟩
theorem Tryz.lays172 : Go.Proofs.Lays.n172 Tryz.prog Tryz.lays172_ren := {
 mixed := by kernel_rfl
 f129 := Tryz.func142.trans (congrArg some (by kernel_rfl))
 f171 := Tryz.func184.trans (congrArg some (by kernel_rfl))
 f172 := Tryz.func66.trans (congrArg some (by kernel_rfl))
 f205 := Tryz.func183.trans (congrArg some (by kernel_rfl))
 f243 := Tryz.func204.trans (congrArg some (by kernel_rfl))
 f244 := Tryz.func115.trans (congrArg some (by kernel_rfl))
 f245 := Tryz.func116.trans (congrArg some (by kernel_rfl))
 f246 := Tryz.func219.trans (congrArg some (by kernel_rfl))
 f247 := Tryz.func156.trans (congrArg some (by kernel_rfl))
 f279 := Tryz.func157.trans (congrArg some (by kernel_rfl))
 f280 := Tryz.func158.trans (congrArg some (by kernel_rfl))
 f281 := Tryz.func159.trans (congrArg some (by kernel_rfl))
 f282 := Tryz.func160.trans (congrArg some (by kernel_rfl))
 f283 := Tryz.func187.trans (congrArg some (by kernel_rfl))
 f284 := Tryz.func188.trans (congrArg some (by kernel_rfl))
 f285 := Tryz.func189.trans (congrArg some (by kernel_rfl))
 f286 := Tryz.func190.trans (congrArg some (by kernel_rfl))
 f287 := Tryz.func181.trans (congrArg some (by kernel_rfl))
 f316 := Tryz.func182.trans (congrArg some (by kernel_rfl))
 f317 := Tryz.func206.trans (congrArg some (by kernel_rfl))
 f318 := Tryz.func207.trans (congrArg some (by kernel_rfl))
 f319 := Tryz.func208.trans (congrArg some (by kernel_rfl))
 f320 := Tryz.func209.trans (congrArg some (by kernel_rfl))
 f321 := Tryz.func202.trans (congrArg some (by kernel_rfl))
 f322 := Tryz.func203.trans (congrArg some (by kernel_rfl))
 f337 := Tryz.func220.trans (congrArg some (by kernel_rfl))
 f338 := Tryz.func221.trans (congrArg some (by kernel_rfl))
 t0 := Tryz.underlying0
 a0 := Tryz.isAgg0
 z0 := Tryz.sizeOf0
 v0 := Tryz.zeroValue0
 t2 := Tryz.underlying2
 a2 := Tryz.isAgg2
 z2 := Tryz.sizeOf2
 v2 := Tryz.zeroValue2
 t3 := Tryz.underlying3
 a3 := Tryz.isAgg3
 z3 := Tryz.sizeOf3
 v3 := Tryz.zeroValue3
 t4 := Tryz.underlying4
 a4 := Tryz.isAgg4
 z4 := Tryz.sizeOf4
 v4 := Tryz.zeroValue4
 t5 := Tryz.underlying5
 a5 := Tryz.isAgg5
 z5 := Tryz.sizeOf5
 v5 := Tryz.zeroValue5
 t9 := Tryz.underlying9
 a9 := Tryz.isAgg9
 z9 := Tryz.sizeOf9
 v9 := Tryz.zeroValue9
 t20 := Tryz.underlying20
 a20 := Tryz.isAgg20
 z20 := Tryz.sizeOf20
 v20 := Tryz.zeroValue20
 t21 := Tryz.underlying21
 a21 := Tryz.isAgg21
 z21 := Tryz.sizeOf21
 v21 := Tryz.zeroValue21
 t37 := Tryz.underlying136
 a37 := Tryz.isAgg136
 z37 := Tryz.sizeOf136
 v37 := Tryz.zeroValue136
 t46 := Tryz.underlying118
 a46 := Tryz.isAgg118
 z46 := Tryz.sizeOf118
 v46 := Tryz.zeroValue118
 t51 := Tryz.underlying161
 a51 := Tryz.isAgg161
 z51 := Tryz.sizeOf161
 v51 := Tryz.zeroValue161
 t53 := Tryz.underlying122
 a53 := Tryz.isAgg122
 z53 := Tryz.sizeOf122
 v53 := Tryz.zeroValue122
 t75 := Tryz.underlying89
 a75 := Tryz.isAgg89
 z75 := Tryz.sizeOf89
 v75 := Tryz.zeroValue89
 t76 := Tryz.underlying90
 a76 := Tryz.isAgg90
 z76 := Tryz.sizeOf90
 v76 := Tryz.zeroValue90
 t85 := Tryz.underlying177
 a85 := Tryz.isAgg177
 z85 := Tryz.sizeOf177
 v85 := Tryz.zeroValue177
 t127 := Tryz.underlying185
 a127 := Tryz.isAgg185
 z127 := Tryz.sizeOf185
 v127 := Tryz.zeroValue185
 t143 := Tryz.underlying227
 a143 := Tryz.isAgg227
 z143 := Tryz.sizeOf227
 v143 := Tryz.zeroValue227
 t145 := Tryz.underlying229
 a145 := Tryz.isAgg229
 z145 := Tryz.sizeOf229
 v145 := Tryz.zeroValue229
 t167 := Tryz.underlying176
 a167 := Tryz.isAgg176
 z167 := Tryz.sizeOf176
 v167 := Tryz.zeroValue176
 t168 := Tryz.underlying179
 a168 := Tryz.isAgg179
 z168 := Tryz.sizeOf179
 v168 := Tryz.zeroValue179
 t171 := Tryz.underlying210
 a171 := Tryz.isAgg210
 z171 := Tryz.sizeOf210
 v171 := Tryz.zeroValue210
 t173 := Tryz.underlying212
 a173 := Tryz.isAgg212
 z173 := Tryz.sizeOf212
 v173 := Tryz.zeroValue212
 t175 := Tryz.underlying190
 a175 := Tryz.isAgg190
 z175 := Tryz.sizeOf190
 v175 := Tryz.zeroValue190
 t210 := Tryz.underlying205
 a210 := Tryz.isAgg205
 z210 := Tryz.sizeOf205
 v210 := Tryz.zeroValue205
 t212 := Tryz.underlying232
 a212 := Tryz.isAgg232
 z212 := Tryz.sizeOf232
 v212 := Tryz.zeroValue232
 t213 := Tryz.underlying233
 a213 := Tryz.isAgg233
 z213 := Tryz.sizeOf233
 t232 := Tryz.underlying243
 a232 := Tryz.isAgg243
 z232 := Tryz.sizeOf243
 v232 := Tryz.zeroValue243
 t233 := Tryz.underlying244
 a233 := Tryz.isAgg244
 z233 := Tryz.sizeOf244
 v233 := Tryz.zeroValue244
 g15 := by kernel_rfl
 g16 := by kernel_rfl
 g17 := by kernel_rfl
 g18 := by kernel_rfl
 g19 := by kernel_rfl }
theorem Tryz.strconv_Atoi (s : ByteArray) (n : Int) (hl : s.size ≤ 18) (h : Lib.atoi s.data.toList = some n) (w : World) :
 Calls Tryz.prog 66 #[.string s] w fun e w' => e = .returned (.tuple #[.int .i64 n, .nilIface]) ∧ ∃ t, w' = Lib.bytesWorld w 5 t := Any.strconv_Atoi Tryz.lays172 s n hl h w
end Go.Proofs
namespace Go.Proofs.YtlimaehdmcnjaaaGreatDoor
open Go.RowKit
open Go.Shelf
open Go.Lib (decDigits nDigits)
theorem decNat_dec (n : Nat) : Lib.decNat (decDigits n) = some n := by
 have hd := allDig_dec n
 have hne : decDigits n ≠ [] := by
  intro e
  have := Lib.decDigits_length n
  rw [e] at this
  have := nd_pos n
  simp at *
  omega
 unfold Lib.decNat
 rw [if_neg (by simpa using hne), decFrom_dv hd, dv_dec, Nat.mul_zero, Nat.zero_add]
theorem atoi_nat (n : Nat) : Lib.atoi (decDigits n) = some (n : Int) := by
 have hd := allDig_dec n
 have hv := decNat_dec n
 cases h : decDigits n with
 | nil =>
  exfalso
  have := Lib.decDigits_length n
  rw [h] at this
  have := nd_pos n
  simp at *
  omega
 | cons b r =>
  have hb := isDig_iff.1 (hd b (by rw [h]; exact List.mem_cons_self ..))
  unfold Lib.atoi
  have n1 : (b == 45) = false := by rw [beq_eq_false_iff_ne]; rintro rfl; revert hb; decide
  have n2 : (b == 43) = false := by rw [beq_eq_false_iff_ne]; rintro rfl; revert hb; decide
  simp only [n1, n2, Bool.false_eq_true, if_false]
  rw [← h, hv]; rfl
theorem flT_list (q : Rat) : (txQ (flQ q)).data.toList = (if q.floor < 0 then [45] else []) ++ decDigits q.floor.natAbs := by
 unfold txQ flQ
 rw [txB_list, Rat.num_intCast, Rat.den_intCast, if_pos rfl, List.append_nil]
 simp only [decide_eq_true_eq]
theorem atoi_fl (q : Rat) : Lib.atoi (txQ (flQ q)).data.toList = some q.floor := by
 rw [flT_list]
 by_cases h : q.floor < 0
 ·rw [if_pos h]
  rw [List.singleton_append]
  unfold Lib.atoi
  have e : ((45 : UInt8) == 45) = true := by decide
  simp only [e, if_true, decNat_dec]
  show some (-(q.floor.natAbs : Int)) = some q.floor
  congr 1; omega
 ·rw [if_neg h, List.nil_append, atoi_nat]
  congr 1; omega
theorem flT_size {q : Rat} (h : q.floor.natAbs < 10 ^ 13) : (txQ (flQ q)).size ≤ 18 := by
 have hd := nDigits_le (n := q.floor.natAbs) (k := 13) (by omega) h
 rw [← list_size, flT_list, List.length_append, Lib.decDigits_length]
 split
 ·rw [List.length_singleton]; omega
 ·rw [List.length_nil]; omega
theorem b_AtoiF (w : World) (q : Rat) (h : q.floor.natAbs < 10 ^ 13) :
 Calls Tryz.prog 66 #[.string (txQ (flQ q))] w fun e w' => e = .returned (.tuple #[.int .i64 q.floor, .nilIface]) ∧ Below w.heap.size w w' := by
 refine (Tryz.strconv_Atoi (txQ (flQ q)) q.floor (flT_size h) (atoi_fl q) w).mono ?_
 rintro e w' ⟨rfl, t, rfl⟩
 exact ⟨rfl, Go.Joins.below_bytesWorld w.heap.size w 5 t (Nat.le_refl _)⟩
theorem b_AtoiN (w : World) (n : Nat) (h : n < 10 ^ 13) :
 Calls Tryz.prog 66 #[.string ⟨(decDigits n).toArray⟩] w fun e w' => e = .returned (.tuple #[.int .i64 (n : Nat), .nilIface]) ∧ Below w.heap.size w w' := by
 have hd := nDigits_le (n := n) (k := 13) (by omega) h
 have hl : (⟨(decDigits n).toArray⟩ : ByteArray).data.toList = decDigits n := by simp
 refine (Tryz.strconv_Atoi ⟨(decDigits n).toArray⟩ n (by rw [← list_size, hl, Lib.decDigits_length]; omega) (by rw [hl]; exact atoi_nat n) w).mono ?_
 rintro e w' ⟨rfl, t, rfl⟩
 exact ⟨rfl, Go.Joins.below_bytesWorld w.heap.size w 5 t (Nat.le_refl _)⟩
theorem near_floor {q : Rat} (h : ¬ (bigR < q ∨ q < -bigR)) : q.floor.natAbs < 10 ^ 13 := by
 have h1 : q ≤ ((1000000000000 : Int) : Rat) := by
  have : bigR = ((1000000000000 : Int) : Rat) := rfl
  grind
 have h2 : ((-1000000000000 : Int) : Rat) ≤ q := by
  have : bigR = ((1000000000000 : Int) : Rat) := rfl
  have e : ((-1000000000000 : Int) : Rat) = -((1000000000000 : Int) : Rat) := by rw [← Rat.intCast_neg]
  grind
 have h3 := Rat.floor_monotone h1
 have h4 := Rat.floor_monotone h2
 rw [Rat.floor_intCast] at h3 h4
 omega
theorem near_text {q : Rat} (h : q.floor.natAbs < 10 ^ 13) : ¬ ovQ (flQ q) := by
 have hd := nDigits_le (n := q.floor.natAbs) (k := 13) (by omega) h
 unfold ovQ flQ
 rw [Rat.num_intCast, Rat.den_intCast]
 have h1 := nDigits_le (n := 1) (k := 1) (by omega) (by omega)
 omega
theorem flo_near {s : ByteArray} (hs : qE s = 0) (h : (vQ s).floor.natAbs < 10 ^ 13) : floB s = txQ (flQ (vQ s)) ∧ floE s = 0 := by
 have hn := near_text h
 unfold floB floE
 refine ⟨?_, ?_⟩
 ·rw [wB, if_pos hs, outB_fits hn]
 ·rw [wE, if_pos hs, outE_fits hn]
theorem near_qE {q : Rat} (h : q.floor.natAbs < 10 ^ 13) : qE (txQ (flQ q)) = 0 ∧ vQ (txQ (flQ q)) = flQ q := ⟨qE_txQ (near_text h), vQ_txQ _⟩
end Go.Proofs.YtlimaehdmcnjaaaGreatDoor
